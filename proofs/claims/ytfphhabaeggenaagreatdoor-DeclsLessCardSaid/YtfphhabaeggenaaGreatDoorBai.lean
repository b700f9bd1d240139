/- Joined texts. -/
import Derived.Test.YtfphhabaeggenaaGreatDoorBah
import Derived.Test.YtfphhabaeggenaaGreatDoorBag
import Derived.Test.YtfphhabaeggenaaGreatDoorBad
import Derived.Test.YtfphhabaeggenaaGreatDoorProg
import Derived.KernelRfl
set_option linter.all false
namespace Go.Proofs.YtfphhabaeggenaaGreatDoor
open Go.RowKit
set_option maxRecDepth 10000
def okU(L:List Tk)(a:Nat)(d:Int)(k:Nat)(v:List ByteArray)(b:Nat)(z:Rs):Prop:=a≤b∧v.length≤b∧z=(k,ps L b d [.rows (v.map fun s=>[sv s])])
section
variable{L:List Tk}(hW:I6 L)
include hW
theorem amJ:∀(m:Nat) (l:List ByteArray) (a:Nat) (d:Int),a<L.length→l.length≤a→pW L (Sb (l.map fun s=>[sv s]) (dA L) (iv a) (iv d)) (rT L m l d a) (okU L a d 3) (fun e w z=>∃b:Nat,z=(2,ps L b d [iv e,iv w])):=by
 intro m
 induction m with
 |zero=>intro l a d ha hl;rw[rT];trivial
 |succ m ih=>
  intro l a d ha hl;refine .of ?_;rw[rT.eq_2,adZ];simp[dB hW ha];refine .may (fun hs=>?_) (fun hs=>?_)
  ·have h1:=aF hW hs
   simp[-Int.natCast_add,hs];refine .takeK (by decide) (fun k2=>?_) (fun k2=>?_)
   ·have h2:=hW.fin (a+1) (by omega)
    have hap:=fun k'=>bD (P:=PG) (d:=.fail) (k:=k') ach (yK l) (c:=[sv (ak L (a+1)).text]) rfl (by simp) (by have:=hW.len;simp;omega) (by decide)
    have hn:=ih (l++[(ak L (a+1)).text]) (a+1+1) d h2 (by simp;omega);rw[List.map_append,List.map_cons,List.map_nil] at hn;simp[-Int.natCast_add,bY hW h1,k2,Tk.cells];simp only[hap];cases hr:rT L m (l++[(ak L (a+1)).text]) d (a+1+1) with
    |out=>trivial
    |err e x=>rw[hr] at hn;obtain⟨z,g1,b,rfl⟩:=hn;exact⟨_,by simp[-Int.natCast_add,g1],b,rfl⟩
    |ok v b=>rw[hr] at hn;obtain⟨hb,z,g1,h5,h6,rfl⟩:=hn;exact⟨hb,_,by simp[-Int.natCast_add,g1],by omega,h6,rfl⟩
   ·exact⟨_,by simp[-Int.natCast_add,bY hW h1,k2],a+1,rfl⟩
  ·exact .pure ha (by simp[hs]) ⟨Nat.le_refl _,hl,rfl⟩
theorem aiU(m:Nat)(x:ByteArray)(a:Nat)(d:Int)(ha:a<L.length)(hl:1≤a):pW L (Sd [[sv x]] (dA L) (iv a) (iv d)) (rT L m [x] d a)
  (fun v b z=>v=[x]∧okU L a d 1 v b z∨okU L a d 3 v b z) (fun e w z=>∃b:Nat,z=(0,ps L b d [iv e,iv w,.rows [[sv x]]])∨z=(2,ps L b d [iv e,iv w])):=by
 cases m with
 |zero=>rw[rT];trivial
 |succ m=>
  refine .of ?_;rw[rT.eq_2,ad1];simp[dB hW ha];refine .may (fun hs=>?_) (fun hs=>?_)
  ·have h1:=aF hW hs
   simp[-Int.natCast_add,hs];refine .takeK (by decide) (fun k2=>?_) (fun k2=>?_)
   ·have h2:=hW.fin (a+1) (by omega)
    have hap:=fun k'=>bD (P:=PG) (d:=.fail) (k:=k') ach (yK [x]) (c:=[sv (ak L (a+1)).text]) rfl (by simp) (by simp) (by decide)
    have hn:=amJ hW m ([x]++[(ak L (a+1)).text]) (a+1+1) d h2 (by simp);rw[List.map_append,List.map_cons,List.map_nil,List.map_cons,List.map_nil] at hn;simp only[List.map_cons,List.map_nil] at hap;simp[-Int.natCast_add,bY hW h1,k2,Tk.cells];simp only[hap];simp only[List.cons_append,List.nil_append] at hn ⊢;cases hr:rT L m [x,(ak L (a+1)).text] d (a+1+1) with
    |out=>trivial
    |err e x=>rw[hr] at hn;obtain⟨z,g1,b,rfl⟩:=hn;exact⟨_,by simp[-Int.natCast_add,g1],b,.inr rfl⟩
    |ok v b=>rw[hr] at hn;obtain⟨hb,z,g1,h5,h6,rfl⟩:=hn;exact⟨hb,_,by simp[-Int.natCast_add,g1],.inr ⟨by omega,h6,rfl⟩⟩
   ·exact⟨_,by simp[-Int.natCast_add,bY hW h1,k2],a+1,.inl rfl⟩
  ·exact .pure ha (by simp[hs]) (.inl ⟨rfl,Nat.le_refl _,by simpa using hl,rfl⟩)
theorem Ju(m:Nat)(a:Nat)(d:Int)(ha:a<L.length):pW L (acP (dA L) (iv a) (iv d)) (kZ L m d a)
  (fun v b z=>a<b∧v.length≤b∧z=(0,ps L b d [.rows (v.map fun s=>[sv s])])) (fun e w z=>∃b:Nat,z=(1,ps L b d [iv e,iv w])):=by
 refine .of ?_;unfold kZ;rw[axX];refine .takeK (by decide) (fun k2=>?_) (fun k2=>?_)
 ·have h1:=hW.fin a (by omega)
  simp[-Int.natCast_add,bY hW ha,k2,Tk.cells];have hn:=aiU hW m (ak L a).text (a+1) d h1 (by omega);cases hr:rT L m [(ak L a).text] d (a+1) with
  |out=>trivial
  |err e x=>
   rw[hr] at hn;obtain⟨z,g1,b,rfl|rfl⟩:=hn
   ·exact⟨_,by simp[-Int.natCast_add,g1],b,rfl⟩
   ·exact⟨_,by simp[-Int.natCast_add,g1],b,rfl⟩
  |ok v b=>
   rw[hr] at hn;obtain⟨hb,z,g1,⟨rfl,h5,h6,rfl⟩|⟨h5,h6,rfl⟩⟩:=hn
   ·simp only[List.map_cons,List.map_nil] at g1
    exact⟨hb,_,by simp[-Int.natCast_add,g1],by omega,h6,rfl⟩
   ·exact⟨hb,_,by simp[-Int.natCast_add,g1],by omega,h6,rfl⟩
 ·exact⟨_,by simp[bY hW ha,k2],a,rfl⟩
omit hW in
theorem Jd{a b:Nat}{d:Int}{v:List ByteArray}(h:ev (acP (dA L) (iv a) (iv d))=some (0,ps L b d [.rows (v.map fun s=>[sv s])])):ev (Yh (dA L) (iv a) (iv d))=some (0,ps L b d [.rows (v.map fun s=>[sv s])]):=aS.of (by
 have:kX (strs v)=strs v:=by simp
 rw[strs] at this;have hk:nth 0 [0,1] 0=0:=rfl;rw[ahM ev,h,iT,hk];simp[this])
omit hW in
theorem Dz{a b:Nat}{d e w:Int}(h:ev (acP (dA L) (iv a) (iv d))=some (1,ps L b d [iv e,iv w])):ev (Yh (dA L) (iv a) (iv d))=some (1,ps L b d [iv e,iv w]):=aS.of (by
 have hk:nth 0 [0,1] 1=1:=rfl;rw[ahM ev,h,iT,hk])
theorem aiY(nm:ByteArray)(at_:Int):∀(m:Nat) (l:List ByteArray) (a:Nat) (d:Int),a<L.length→l.length≤a→pW L (Tf (dA L) (iv a) (iv d) (sv nm) (l.map fun s=>[sv s]) (iv at_)) (lY L m l d a)
  (fun v b z=>a≤b∧v.length≤b∧z=(1,ps L b d [sv nm,.rows (v.map fun s=>[sv s]),nS,nS,iv at_,sv eB,nS,nS,nS,iv 0])) (fun e w z=>False):=by
 intro m
 induction m with
 |zero=>intro l a d ha hl;rw[lY];trivial
 |succ m ih=>
  intro l a d ha hl;refine .of ?_;rw[lY.eq_2,aex];refine .kind (fun k1=>?_) (fun k1=>?_)
  ·refine .takeK (by decide) (fun _=>?_) (fun h=>absurd k1 h)
   have h2:=hW.fin a (by omega);have hap:=fun k'=>bD (P:=PG) (d:=.fail) (k:=k') ach (yK l) (c:=[sv (ak L a).text]) rfl (by simp) (by have:=hW.len;simp;omega) (by decide)
   have hn:=ih (l++[(ak L a).text]) (a+1) d h2 (by simp;omega);rw[List.map_append,List.map_cons,List.map_nil] at hn;simp[-Int.natCast_add,eH ha,Tk.cells,eq_true k1,qd hW ha];simp only[hap];cases hr:lY L m (l++[(ak L a).text]) d (a+1) with
   |out=>trivial
   |err e x=>rw[hr] at hn;obtain⟨z,g1,hf⟩:=hn;exact hf.elim
   |ok v b=>rw[hr] at hn;obtain⟨hb,z,g1,h5,h6,rfl⟩:=hn;exact⟨hb,_,by simp[-Int.natCast_add,g1],by omega,h6,rfl⟩
  ·exact .pure ha (by simp[eH ha,Tk.cells,k1]) ⟨Nat.le_refl _,hl,rfl⟩
theorem aco(nm:ByteArray)(at_:Int)(m:Nat)(a:Nat)(d:Int)(ha:a<L.length):pW L (Tg (dA L) (iv a) (iv d) (sv nm) (iv at_)) (lY L m [] d a)
  (fun v b z=>a≤b∧v.length≤b∧(v=[]∧z=(0,ps L b d [sv nm,nS,nS,nS,iv at_,sv eB,nS,nS,nS,iv 0])∨z=(1,ps L b d [sv nm,.rows (v.map fun s=>[sv s]),nS,nS,iv at_,sv eB,nS,nS,nS,iv 0]))) (fun e w z=>False):=by
 cases m with
 |zero=>rw[lY];trivial
 |succ m=>
  refine .of ?_;rw[lY.eq_2,aey];refine .kind (fun k1=>?_) (fun k1=>?_)
  ·refine .takeK (by decide) (fun _=>?_) (fun h=>absurd k1 h)
   have h2:=hW.fin a (by omega);have hn:=aiY hW nm at_ m [(ak L a).text] (a+1) d h2 (by simp);rw[List.map_cons,List.map_nil] at hn;simp[-Int.natCast_add,eH ha,Tk.cells,eq_true k1,qd hW ha];cases hr:lY L m [(ak L a).text] d (a+1) with
   |out=>trivial
   |err e x=>rw[hr] at hn;obtain⟨z,g1,hf⟩:=hn;exact hf.elim
   |ok v b=>rw[hr] at hn;obtain⟨hb,z,g1,h5,h6,rfl⟩:=hn;exact⟨hb,_,by simp[-Int.natCast_add,g1],by omega,h6,.inr rfl⟩
  ·exact .pure ha (by simp[eH ha,Tk.cells,k1]) ⟨Nat.le_refl _,by simp,.inl ⟨rfl,rfl⟩⟩
end
set_option maxRecDepth 10000
abbrev tz(da:Int):List PV:=[nS,iv da,sv eB,nS,nS,nS,iv 0]
theorem Cn.raw{x:Cn}{X:PV}(h:X=nS∧x.args=[]∨X=.rows (x.args.map Ty.cells)):fC [sv x.name,X,iv x.at_]=x.cells∧jh [sv x.name,X,iv x.at_]:=by
 rcases h with⟨rfl,h⟩|rfl
 ·exact⟨by simp[Cn.cells,h],by simp⟩
 ·have hw:kX (aV x.args)=aV x.args:=by simp
  have hn:NS (aV x.args):=by simp
  rw[aV] at hw hn;exact⟨by simp[Cn.cells,hw,aV],by simp[hn]⟩
theorem tJ(l:List ByteArray):kX (.rows (l.map fun s=>[sv s]))=.rows (l.map fun s=>[sv s]):=by
 have:kX (strs l)=strs l:=by simp
 rw[strs] at this;exact this
def fl(b:Bool)(p:PV):PV:=if b=true then p else nS
@[simp] theorem vg(p:PV):fl true p=p:=rfl
@[simp] theorem vk(p:PV):fl false p=nS:=rfl
@[simp] def kz:Bool→Bool→Nat→Nat→Nat
 |false,false,h,l=>2*h+l
 |false,true,h,l=>4*h+2+l
 |true,false,h,l=>4*h+l
 |true,true,h,l=>2*h+l
section
variable{L:List Tk}(hW:I6 L)
include hW
section
omit hW
variable(L)(cn:ByteArray)(ca:Int)(dn:ByteArray)(da:Int)(PP CC:List (List PV))(a:Nat)(d:Int)
def qA3(l:List (List PV)):Bool→Bool→Q
 |false,false=>SQ (dA L) (iv a) (iv d) (sv cn) l (iv ca) (sv dn) (iv da)
 |false,true=>SL (dA L) (iv a) (iv d) (sv cn) l (iv ca) (sv dn) CC (iv da)
 |true,false=>SN (dA L) (iv a) (iv d) (sv cn) l (iv ca) (sv dn) PP (iv da)
 |true,true=>SK (dA L) (iv a) (iv d) (sv cn) l (iv ca) (sv dn) PP CC (iv da)
def qA2:Bool→Bool→Q
 |false,false=>S9 (dA L) (iv a) (iv d) (sv cn) (iv ca) (sv dn) (iv da)
 |false,true=>SX (dA L) (iv a) (iv d) (sv cn) (iv ca) (sv dn) CC (iv da)
 |true,false=>SY (dA L) (iv a) (iv d) (sv cn) (iv ca) (sv dn) PP (iv da)
 |true,true=>SV (dA L) (iv a) (iv d) (sv cn) (iv ca) (sv dn) PP CC (iv da)
def qK3:Bool→Q
 |false=>Tc (dA L) (iv a) (iv d) (sv dn) CC (iv da)
 |true=>Ta (dA L) (iv a) (iv d) (sv dn) PP CC (iv da)
def qK2:Bool→Q
 |false=>Te (dA L) (iv a) (iv d) (sv dn) (iv da)
 |true=>Td (dA L) (iv a) (iv d) (sv dn) PP (iv da)
end
theorem acp(PP CC:List (List PV))(p c:Bool)(cn:ByteArray)(ca:Int)(dn:ByteArray)(da:Int):∀(m:Nat) (l:List Ty) (a:Nat) (d:Int),0≤d→d≤300→a<L.length→l.length≤a→pW L (qA3 L cn ca dn da PP CC a d (l.map Ty.cells) p c) (dI L m l d a)
  (fun v b z=>a≤b∧v.length≤b∧z=(kz p c 1 1,ps L b d (sv cn :: .rows (v.map Ty.cells)::iv ca::sv dn::fl p (.rows PP)::fl c (.rows CC)::tz da))) (fun e w z=>∃(b:Nat) (d':Int) (T:PV),z=(kz p c 1 0,ps L b d' (sv cn::T::iv ca::sv dn::fl p (.rows PP)::fl c (.rows CC)::(tz da++[iv e,iv w])))):=by
 intro m
 induction m with
 |zero=>intro l a d h0 h1 ha hl;unfold dI;rw[wU];trivial
 |succ m ih=>
  intro l a d h0 h1 ha hl;refine .of ?_;rw[tu];cases p<;>cases c
  all_goals
   (first|rw[qA3,ael]|rw[qA3,aej]|rw[qA3,aek]|rw[qA3,aei])
   simp[yP hW ha];refine .st (fun hs=>?_) (fun hs=>?_)
   ·simp[hs]
    refine .callW (s_at hW m a d h0 h1 ha) (fun v b hb hab g=>?_) (fun e w b d' g=>?_)
    ·simp[g]
     have hap:=fun k'=>bD (P:=PG) (d:=.fail) (k:=k') amz (Jz l) (c:=Gy v) rfl (by simp) (by have:=hW.len;simp;omega) (by decide)
     simp[hap];have hn:=ih (l++[v]) b d h0 h1 hb (by simp;omega);rw[List.map_append,List.map_cons,List.map_nil,Ty.cells_eq v] at hn
     try simp only[qA3,vg,vk] at hn
     cases hr:dI L m (l++[v]) d b with
     |out=>trivial
     |err e w=>rw[hr] at hn;obtain⟨z,g1,b2,d',T,rfl⟩:=hn;exact⟨_,by simp[g1],b2,d',T,rfl⟩
     |ok v2 b2=>rw[hr] at hn;obtain⟨hb2,z,g1,h5,h6,rfl⟩:=hn;exact⟨hb2,_,by simp[g1],by omega,h6,rfl⟩
    ·exact⟨_,by simp[g],b,d',.rows (l.map Ty.cells),rfl⟩
   ·exact .pure ha (by simp[hs]) ⟨Nat.le_refl _,hl,rfl⟩
theorem Mr(PP CC:List (List PV))(p c:Bool)(cn:ByteArray)(ca:Int)(dn:ByteArray)(da:Int)(m:Nat)(a:Nat)(d:Int)(h0:0≤d)(h1:d≤300)(ha:a<L.length):pW L (qA2 L cn ca dn da PP CC a d p c) (dI L m [] d a)
  (fun v b z=>a≤b∧(v=[]∧z=(kz p c 0 1,ps L b d (sv cn::nS::iv ca::sv dn::fl p (.rows PP)::fl c (.rows CC)::tz da))∨v.length≤b∧z=(kz p c 1 1,ps L b d (sv cn :: .rows (v.map Ty.cells)::iv ca::sv dn::fl p (.rows PP)::fl c (.rows CC)::tz da))))
  (fun e w z=>∃(b:Nat) (d':Int),z=(kz p c 0 0,ps L b d' (sv cn::nS::iv ca::sv dn::fl p (.rows PP)::fl c (.rows CC)::(tz da++[iv e,iv w])))∨∃T,z=(kz p c 1 0,ps L b d' (sv cn::T::iv ca::sv dn::fl p (.rows PP)::fl c (.rows CC)::(tz da++[iv e,iv w])))):=by
 cases m with
 |zero=>unfold dI;rw[wU];trivial
 |succ m=>
  refine .of ?_;rw[tu];have hZ:=acp hW PP CC p c cn ca dn da m;cases p<;>cases c
  all_goals
   simp only[qA3,vg,vk,kz] at hZ
   (first|rw[qA2,aep]|rw[qA2,aen]|rw[qA2,aeo]|rw[qA2,aem])
   simp[yP hW ha];refine .st (fun hs=>?_) (fun hs=>?_)
   ·simp[hs]
    refine .callW (s_at hW m a d h0 h1 ha) (fun v b hb hab g=>?_) (fun e w b d' g=>?_)
    ·simp[g]
     have hn:=hZ [v] b d h0 h1 hb (by simp;omega);rw[List.map_cons,List.map_nil,Ty.cells_eq v] at hn
     try simp only[qA3,vg,vk] at hn
     cases hr:dI L m [v] d b with
     |out=>trivial
     |err e w=>rw[hr] at hn;obtain⟨z,g1,b2,d',T,rfl⟩:=hn;exact⟨_,by simp[g1],b2,d',.inr ⟨T,rfl⟩⟩
     |ok v2 b2=>rw[hr] at hn;obtain⟨hb2,z,g1,h5,h6,rfl⟩:=hn;exact⟨hb2,_,by simp[g1],by omega,.inr ⟨h6,rfl⟩⟩
    ·exact⟨_,by simp[g],b,d',.inl rfl⟩
   ·exact .pure ha (by simp[hs]) ⟨Nat.le_refl _,.inl ⟨rfl,rfl⟩⟩
theorem ai4(PP:List (List PV))(p:Bool)(dn:ByteArray)(da:Int):∀(m:Nat) (l:List Cn) (CC:List (List PV)) (a:Nat) (d:Int),Raw 3 CC (l.map Cn.cells)→l.length≤a→0≤d→d≤300→a<L.length→pW L (qK3 L dn da PP CC a d p) (kU L m l d a)
  (fun v b z=>a≤b∧∃B',Raw 3 B' (v.map Cn.cells)∧z=(0,ps L b d (sv dn::fl p (.rows PP) :: .rows B'::tz da))) (fun e w z=>∃(b:Nat) (d':Int) (T:PV),z=(2,ps L b d' (sv dn::fl p (.rows PP)::T::(tz da++[iv e,iv w])))):=by
 intro m
 induction m with
 |zero=>intro l CC a d hr hl h0 h1 ha;rw[kU];trivial
 |succ m ih=>
  intro l CC a d hr hl h0 h1 ha;refine .of ?_;rw[kU.eq_2];have hA:=Mr hW PP CC p true (ak L a).text (ak L a).at_ dn da m;cases p
  all_goals
   simp only[qA2,vg,vk,kz] at hA
   (first|rw[qK3,aes]|rw[qK3,aer])
   have hLl:=hW.len;refine .takeK (by decide) (fun k2=>?_) (fun k2=>?_)
   ·have hl1:=hW.fin a (by omega)
    simp[-Int.natCast_add,bY hW ha,k2,Tk.cells];refine .bind (hA (a+1) d h0 h1 hl1) (fun tl b z hb g hz=>?_) (fun e w z g hz=>?_)
    ·obtain⟨hab,hz⟩:=hz
     have key:∀(X:PV),(X=nS∧tl=[]∨X=.rows (tl.map Ty.cells))→Raw 3 (CC++[[sv (ak L a).text,X,iv (ak L a).at_]]) ((l++[(⟨(ak L a).text,tl,(ak L a).at_⟩:Cn)]).map Cn.cells):=fun X hX=>by
      have hx:=Cn.raw (x:=⟨(ak L a).text,tl,(ak L a).at_⟩) hX;rw[List.map_append,List.map_cons,List.map_nil];exact hr.app hx.1 rfl hx.2
     rcases hz with⟨rfl,rfl⟩|⟨h5,rfl⟩
     ·have hk:=key nS (.inl ⟨rfl,rfl⟩)
      simp[-Int.natCast_add,g];have hap:=fun k'=>bD (P:=PG) (d:=.fail) (k:=k') amC hr (c:=[sv (ak L a).text,nS,iv (ak L a).at_]) rfl (Cn.raw (x:=⟨(ak L a).text,[],(ak L a).at_⟩) (.inl ⟨rfl,rfl⟩)).2 (by have:=hr.len;simp at this;omega) (by decide)
      simp only[hap];simp[-Int.natCast_add,dB hW hb];refine .may (fun hs=>?_) (fun hs=>?_)
      ·have hl2:=aF hW hs
       simp[-Int.natCast_add,hs];have hn:=ih _ _ (b+1) d hk (by simp;omega) h0 h1 hl2;simp only[List.cons_append,List.nil_append,qK3,vg,vk] at hn;have hn:=hn;cases hr2:kU L m (l++[(⟨(ak L a).text,[],(ak L a).at_⟩:Cn)]) d (b+1) with
       |out=>trivial
       |err e w=>rw[hr2] at hn;obtain⟨z,g1,b2,d',T,rfl⟩:=hn;exact⟨_,by simp[-Int.natCast_add,g1],b2,d',T,rfl⟩
       |ok v2 b2=>rw[hr2] at hn;obtain⟨hb2,z,g1,h6,B',h7,rfl⟩:=hn;exact⟨hb2,_,by simp[-Int.natCast_add,g1],by omega,B',h7,rfl⟩
      ·exact .pure hb (by simp[hs]) ⟨by omega,_,hk,rfl⟩
     ·have hk:=key (.rows (tl.map Ty.cells)) (.inr rfl)
      simp[-Int.natCast_add,g];have hap:=fun k'=>bD (P:=PG) (d:=.fail) (k:=k') amC hr (c:=[sv (ak L a).text,(.rows (tl.map Ty.cells)),iv (ak L a).at_]) rfl (Cn.raw (x:=⟨(ak L a).text,tl,(ak L a).at_⟩) (.inr rfl)).2 (by have:=hr.len;simp at this;omega) (by decide)
      simp only[hap];simp[-Int.natCast_add,dB hW hb];refine .may (fun hs=>?_) (fun hs=>?_)
      ·have hl2:=aF hW hs
       simp[-Int.natCast_add,hs];have hn:=ih _ _ (b+1) d hk (by simp;omega) h0 h1 hl2;simp only[List.cons_append,List.nil_append,qK3,vg,vk] at hn;have hn:=hn;cases hr2:kU L m (l++[(⟨(ak L a).text,tl,(ak L a).at_⟩:Cn)]) d (b+1) with
       |out=>trivial
       |err e w=>rw[hr2] at hn;obtain⟨z,g1,b2,d',T,rfl⟩:=hn;exact⟨_,by simp[-Int.natCast_add,g1],b2,d',T,rfl⟩
       |ok v2 b2=>rw[hr2] at hn;obtain⟨hb2,z,g1,h6,B',h7,rfl⟩:=hn;exact⟨hb2,_,by simp[-Int.natCast_add,g1],by omega,B',h7,rfl⟩
      ·exact .pure hb (by simp[hs]) ⟨by omega,_,hk,rfl⟩
    ·obtain⟨b,d',rfl|⟨T,rfl⟩⟩:=hz
     ·exact⟨_,by simp[-Int.natCast_add,g],b,d',.rows CC,rfl⟩
     ·exact⟨_,by simp[-Int.natCast_add,g],b,d',.rows CC,rfl⟩
   ·exact⟨_,by simp[bY hW ha,k2],a,d,.rows CC,rfl⟩
theorem R3(PP:List (List PV))(p:Bool)(dn:ByteArray)(da:Int)(m:Nat)(a:Nat)(d:Int)(h0:0≤d)(h1:d≤300)(ha:a<L.length):pW L (qK2 L dn da PP a d p) (kU L m [] d a)
  (fun v b z=>a≤b∧∃B',Raw 3 B' (v.map Cn.cells)∧z=(0,ps L b d (sv dn::fl p (.rows PP) :: .rows B'::tz da))) (fun e w z=>∃(b:Nat) (d':Int),z=(1,ps L b d' (sv dn::fl p (.rows PP)::nS::(tz da++[iv e,iv w])))∨∃(T:PV),z=(2,ps L b d' (sv dn::fl p (.rows PP)::T::(tz da++[iv e,iv w])))):=by
 cases m with
 |zero=>rw[kU];trivial
 |succ m=>
  refine .of ?_;rw[kU.eq_2];have hA:=Mr hW PP [] p false (ak L a).text (ak L a).at_ dn da m;have hC:=ai4 hW PP p dn da m;cases p
  all_goals
   simp only[qK3,vg,vk] at hC;simp only[qA2,vg,vk,kz] at hA
   (first|rw[qK2,aew]|rw[qK2,aeu])
   have hLl:=hW.len;refine .takeK (by decide) (fun k2=>?_) (fun k2=>?_)
   ·have hl1:=hW.fin a (by omega)
    simp[-Int.natCast_add,bY hW ha,k2,Tk.cells];refine .bind (hA (a+1) d h0 h1 hl1) (fun tl b z hb g hz=>?_) (fun e w z g hz=>?_)
    ·obtain⟨hab,hz⟩:=hz
     have key:∀(X:PV),(X=nS∧tl=[]∨X=.rows (tl.map Ty.cells))→Raw 3 ([]++[[sv (ak L a).text,X,iv (ak L a).at_]]) (([]++[(⟨(ak L a).text,tl,(ak L a).at_⟩:Cn)]).map Cn.cells):=fun X hX=>by
      have hx:=Cn.raw (x:=⟨(ak L a).text,tl,(ak L a).at_⟩) hX;rw[List.map_append,List.map_cons,List.map_nil];exact(Raw.nil 3).app hx.1 rfl hx.2
     rcases hz with⟨rfl,rfl⟩|⟨h5,rfl⟩
     ·have hk:=key nS (.inl ⟨rfl,rfl⟩)
      simp[-Int.natCast_add,g];simp[-Int.natCast_add,dB hW hb];refine .may (fun hs=>?_) (fun hs=>?_)
      ·have hl2:=aF hW hs
       simp[-Int.natCast_add,hs];have hn:=hC _ _ (b+1) d hk (by simp) h0 h1 hl2;simp only[List.cons_append,List.nil_append,qK3,vg,vk] at hn;cases hr2:kU L m ([(⟨(ak L a).text,[],(ak L a).at_⟩:Cn)]) d (b+1) with
       |out=>trivial
       |err e w=>rw[hr2] at hn;obtain⟨z,g1,b2,d',T,rfl⟩:=hn;exact⟨_,by simp[-Int.natCast_add,g1],b2,d',.inr ⟨T,rfl⟩⟩
       |ok v2 b2=>rw[hr2] at hn;obtain⟨hb2,z,g1,h6,B',h7,rfl⟩:=hn;exact⟨hb2,_,by simp[-Int.natCast_add,g1],by omega,B',h7,rfl⟩
      ·exact .pure hb (by simp[hs]) ⟨by omega,_,hk,rfl⟩
     ·have hk:=key (.rows (tl.map Ty.cells)) (.inr rfl)
      simp[-Int.natCast_add,g];simp[-Int.natCast_add,dB hW hb];refine .may (fun hs=>?_) (fun hs=>?_)
      ·have hl2:=aF hW hs
       simp[-Int.natCast_add,hs];have hn:=hC _ _ (b+1) d hk (by simp) h0 h1 hl2;simp only[List.cons_append,List.nil_append,qK3,vg,vk] at hn;cases hr2:kU L m ([(⟨(ak L a).text,tl,(ak L a).at_⟩:Cn)]) d (b+1) with
       |out=>trivial
       |err e w=>rw[hr2] at hn;obtain⟨z,g1,b2,d',T,rfl⟩:=hn;exact⟨_,by simp[-Int.natCast_add,g1],b2,d',.inr ⟨T,rfl⟩⟩
       |ok v2 b2=>rw[hr2] at hn;obtain⟨hb2,z,g1,h6,B',h7,rfl⟩:=hn;exact⟨hb2,_,by simp[-Int.natCast_add,g1],by omega,B',h7,rfl⟩
      ·exact .pure hb (by simp[hs]) ⟨by omega,_,hk,rfl⟩
    ·obtain⟨b,d',rfl|⟨T,rfl⟩⟩:=hz
     ·exact⟨_,by simp[-Int.natCast_add,g],b,d',.inl rfl⟩
     ·exact⟨_,by simp[-Int.natCast_add,g],b,d',.inl rfl⟩
   ·exact⟨_,by simp[bY hW ha,k2],a,d,.inl rfl⟩
abbrev pDt(L:List Tk)(a:Nat)(d:Int):Q:=agP (dA L) (iv a) (iv d)
theorem ai2(m:Nat):Pa L (pDt L) dtC (F7 L m):=by
 intro a d h0 h1 ha;refine .weak (aq4 ev _ _ _) (.of ?_);unfold F7;rw[ayf];refine .takeK (by decide) (fun k2=>?_) (fun k2=>?_)
 ·have hl1:=hW.fin a (by omega)
  simp[-Int.natCast_add,bY hW ha,k2,Tk.cells];refine .bind (aco hW (ak L a).text (ak L a).at_ m (a+1) d hl1) (fun ps b z hb g hz=>?_) (fun e w z g hz=>hz.elim);obtain⟨hab,hlp,hz⟩:=hz;rcases hz with⟨rfl,rfl⟩|rfl
  ·simp[-Int.natCast_add,g]
   refine .take (by decide) (fun he=>?_) (fun he=>?_)
   ·have hl2:=aF hW he
    simp[-Int.natCast_add,aJ hW hb,he,Tk.cells];refine .bind (R3 hW [] false (ak L a).text (ak L a).at_ m (b+1) d h0 h1 hl2) (fun cs b2 z hb2 g2 hz=>?_) (fun e w z g2 hz=>?_)
    all_goals simp only[qK2] at g2
    ·obtain⟨hab2,B,hB,rfl⟩:=hz
     simp[-Int.natCast_add,g2];simp[-Int.natCast_add,dB hW hb2];refine .may (fun hv=>?_) (fun hv=>?_)
     ·have hl3:=aF hW hv
      simp[-Int.natCast_add,hv];refine .take (by decide) (fun ho=>?_) (fun ho=>?_)
      ·have hl4:=aF hW ho
       simp[-Int.natCast_add,aJ hW hl3,ho,Tk.cells];refine .bind (Ju hW m (b2+1+1) d hl4) (fun ds b3 z hb3 g3 hz=>?_) (fun e w z g3 hz=>?_)
       ·obtain⟨hab3,hl5,rfl⟩:=hz
        have gw:=Jd g3;simp[-Int.natCast_add,g3,gw];refine .take (by decide) (fun hc=>?_) (fun hc=>?_)
        ·exact .pure (aF hW hc) (by simp[-Int.natCast_add,aJ hW hb3,hc,Tk.cells]) (.of (m:=[0,1,0,0,0,0,0,0,0]) (k:=4) (ys:=[sv (ak L a).text,nS,.rows B,.rows (ds.map fun s=>[sv s]),iv (ak L a).at_]) (by omega) rfl (by simp[hB.wd,tJ,strs,nK]))
        ·exact⟨_,by simp[-Int.natCast_add,aJ hW hb3,hc],.of (m:=[0,1,0,0,0,0,0,0,0]) (b:=b3) (d:=d) (k:=1) rfl⟩
       ·obtain⟨b3,rfl⟩:=hz
        have gw:=Dz g3;exact⟨_,by simp[-Int.natCast_add,g3,gw],.of (m:=[0,1,0,0,0,0,0,0,0]) (b:=b3) (d:=d) (k:=1) rfl⟩
      ·exact⟨_,by simp[-Int.natCast_add,aJ hW hl3,ho],.of (m:=[0,1,0,0,0,0,0,0,0]) (b:=b2+1) (d:=d) (k:=1) rfl⟩
     ·exact .pure hb2 (by simp[-Int.natCast_add,hv]) (.of (m:=[0,1,0,0,0,0,0,0,0]) (k:=3) (ys:=[sv (ak L a).text,nS,.rows B,nS,iv (ak L a).at_]) (by omega) rfl (by simp[hB.wd,tJ,strs,nK]))
    ·obtain⟨b2,d',rfl|⟨T,rfl⟩⟩:=hz
     ·exact⟨_,by simp[-Int.natCast_add,g2],.of (m:=[0,1,0,0,0,0,0,0,0]) (b:=b2) (d:=d') (k:=1) rfl⟩
     ·exact⟨_,by simp[-Int.natCast_add,g2],.of (m:=[0,1,0,0,0,0,0,0,0]) (b:=b2) (d:=d') (k:=1) rfl⟩
   ·exact⟨_,by simp[-Int.natCast_add,aJ hW hb,he],.of (m:=[0,1,0,0,0,0,0,0,0]) (b:=b) (d:=d) (k:=1) rfl⟩
  ·simp[-Int.natCast_add,g]
   refine .take (by decide) (fun he=>?_) (fun he=>?_)
   ·have hl2:=aF hW he
    simp[-Int.natCast_add,aJ hW hb,he,Tk.cells];refine .bind (R3 hW (ps.map fun s=>[sv s]) true (ak L a).text (ak L a).at_ m (b+1) d h0 h1 hl2) (fun cs b2 z hb2 g2 hz=>?_) (fun e w z g2 hz=>?_)
    all_goals simp only[qK2] at g2
    ·obtain⟨hab2,B,hB,rfl⟩:=hz
     simp[-Int.natCast_add,g2];simp[-Int.natCast_add,dB hW hb2];refine .may (fun hv=>?_) (fun hv=>?_)
     ·have hl3:=aF hW hv
      simp[-Int.natCast_add,hv];refine .take (by decide) (fun ho=>?_) (fun ho=>?_)
      ·have hl4:=aF hW ho
       simp[-Int.natCast_add,aJ hW hl3,ho,Tk.cells];refine .bind (Ju hW m (b2+1+1) d hl4) (fun ds b3 z hb3 g3 hz=>?_) (fun e w z g3 hz=>?_)
       ·obtain⟨hab3,hl5,rfl⟩:=hz
        have gw:=Jd g3;simp[-Int.natCast_add,g3,gw];refine .take (by decide) (fun hc=>?_) (fun hc=>?_)
        ·exact .pure (aF hW hc) (by simp[-Int.natCast_add,aJ hW hb3,hc,Tk.cells]) (.of (m:=[0,1,0,0,0,0,0,0,0]) (k:=8) (ys:=[sv (ak L a).text,(.rows (ps.map fun s=>[sv s])),.rows B,.rows (ds.map fun s=>[sv s]),iv (ak L a).at_]) (by omega) rfl (by simp[hB.wd,tJ,strs,nK]))
        ·exact⟨_,by simp[-Int.natCast_add,aJ hW hb3,hc],.of (m:=[0,1,0,0,0,0,0,0,0]) (b:=b3) (d:=d) (k:=1) rfl⟩
       ·obtain⟨b3,rfl⟩:=hz
        have gw:=Dz g3;exact⟨_,by simp[-Int.natCast_add,g3,gw],.of (m:=[0,1,0,0,0,0,0,0,0]) (b:=b3) (d:=d) (k:=1) rfl⟩
      ·exact⟨_,by simp[-Int.natCast_add,aJ hW hl3,ho],.of (m:=[0,1,0,0,0,0,0,0,0]) (b:=b2+1) (d:=d) (k:=1) rfl⟩
     ·exact .pure hb2 (by simp[-Int.natCast_add,hv]) (.of (m:=[0,1,0,0,0,0,0,0,0]) (k:=7) (ys:=[sv (ak L a).text,(.rows (ps.map fun s=>[sv s])),.rows B,nS,iv (ak L a).at_]) (by omega) rfl (by simp[hB.wd,tJ,strs,nK]))
    ·obtain⟨b2,d',rfl|⟨T,rfl⟩⟩:=hz
     ·exact⟨_,by simp[-Int.natCast_add,g2],.of (m:=[0,1,0,0,0,0,0,0,0]) (b:=b2) (d:=d') (k:=1) rfl⟩
     ·exact⟨_,by simp[-Int.natCast_add,g2],.of (m:=[0,1,0,0,0,0,0,0,0]) (b:=b2) (d:=d') (k:=1) rfl⟩
   ·exact⟨_,by simp[-Int.natCast_add,aJ hW hb,he],.of (m:=[0,1,0,0,0,0,0,0,0]) (b:=b) (d:=d) (k:=1) rfl⟩
 ·exact⟨_,by simp[bY hW ha,k2],.of (m:=[0,1,0,0,0,0,0,0,0]) (b:=a) (d:=d) (k:=1) rfl⟩
end
set_option maxRecDepth 10000
abbrev cz(da:Int):List PV:=[iv da,sv eB,sv eB,nS,nS,nS,iv 0]
def okM:Bool→Bool→Nat
 |false,false=>0
 |false,true=>4
 |true,false=>6
 |true,true=>7
def erM:Bool→Bool→Nat
 |false,false=>2
 |false,true=>1
 |true,false=>3
 |true,true=>5
@[simp] theorem axJ:okM false false=0:=rfl
@[simp] theorem axI:okM false true=4:=rfl
@[simp] theorem axH:okM true false=6:=rfl
@[simp] theorem axG:okM true true=7:=rfl
@[simp] theorem ayE:erM false false=2:=rfl
@[simp] theorem ayD:erM false true=1:=rfl
@[simp] theorem ayC:erM true false=3:=rfl
@[simp] theorem ayB:erM true true=5:=rfl
theorem Br(l:List Md):kX (.rows (l.map Md.cells))=.rows (l.map Md.cells):=by
 have:kX (jb l)=jb l:=by simp
 rw[jb] at this;exact this
theorem gX(l:List Bd):kX (.rows (l.map Bd.cells))=.rows (l.map Bd.cells):=by
 have:kX (bg l)=bg l:=by simp
 rw[bg] at this;exact this
def okI(L:List Tk)(nm vr:ByteArray)(at_:Int)(SC:PV)(a:Nat)(d:Int)(v:List Md×List Bd)(b:Nat)(z:Rs):Prop:=a≤b∧∃bm bd:Bool,(bm=false→v.1=[])∧(bd=false→v.2=[])∧z=(okM bm bd,ps L b d (sv nm::sv vr::SC::fl bm (.rows (v.1.map Md.cells))::fl bd (.rows (v.2.map Bd.cells))::cz at_))
def erI(L:List Tk)(nm vr:ByteArray)(at_:Int)(SC:PV)(e w:Int)(z:Rs):Prop:=∃(b:Nat) (d':Int) (bm bd:Bool) (T U:PV),z=(erM bm bd,ps L b d' (sv nm::sv vr::SC::fl bm T::fl bd U::(cz at_++[iv e,iv w])))
section
variable{L:List Tk}(hW:I6 L)
include hW
omit hW in
def yL(L:List Tk)(a:Nat)(d:Int)(nm vr:ByteArray)(at_:Int)(SS:List (List PV)):Bool→Bool→Bool→List Md→List Bd→Q
 |false,false,false,_,_=>SI (dA L) (iv a) (iv d) (sv nm) (sv vr) (iv at_)
 |false,false,true,_,ds=>SG (dA L) (iv a) (iv d) (sv nm) (sv vr) (ds.map Bd.cells) (iv at_)
 |false,true,false,ms,_=>SB (dA L) (iv a) (iv d) (sv nm) (sv vr) (ms.map Md.cells) (iv at_)
 |false,true,true,ms,ds=>Sy (dA L) (iv a) (iv d) (sv nm) (sv vr) (ms.map Md.cells) (ds.map Bd.cells) (iv at_)
 |true,false,false,_,_=>SH (dA L) (iv a) (iv d) (sv nm) (sv vr) SS (iv at_)
 |true,false,true,_,ds=>SA (dA L) (iv a) (iv d) (sv nm) (sv vr) SS (ds.map Bd.cells) (iv at_)
 |true,true,false,ms,_=>Sz (dA L) (iv a) (iv d) (sv nm) (sv vr) SS (ms.map Md.cells) (iv at_)
 |true,true,true,ms,ds=>Sw (dA L) (iv a) (iv d) (sv nm) (sv vr) SS (ms.map Md.cells) (ds.map Bd.cells) (iv at_)
theorem RY(nm vr:ByteArray)(at_:Int)(SS:List (List PV))(sb:Bool):∀(m:Nat) (bm bd:Bool) (ms:List Md) (ds:List Bd) (a:Nat) (d:Int),(bm=false→ms=[])→(bd=false→ds=[])→ms.length+ds.length≤a→0≤d→d≤300→a<L.length→pW L (yL L a d nm vr at_ SS sb bm bd ms ds) (gQ L m ms ds d a)
  (okI L nm vr at_ (fl sb (.rows SS)) a d) (erI L nm vr at_ (fl sb (.rows SS))):=by
 intro m
 induction m with
 |zero=>intro bm bd ms ds a d h1 h2 hl h0 h3 ha;rw[gQ];trivial
 |succ m ih=>
  intro bm bd ms ds a d hm hd0 hl h0 h1 ha;have hLl:=hW.len;have jB:=fun(v:Bd) (b:Nat) (hab:a<b) (hb:b<L.length)=>ih bm true ms (ds++[v]) b d hm (fun h=>by cases h) (by simp only[List.length_append,List.length_cons,List.length_nil];omega) h0 h1 hb
  have jM:=fun(v:Md) (b:Nat) (hab:a<b) (hb:b<L.length)=>ih true bd (ms++[v]) ds b d (fun h=>by cases h) hd0 (by simp only[List.length_append,List.length_cons,List.length_nil];omega) h0 h1 hb
  have kO:∀b,a≤b→okI L nm vr at_ (fl sb (.rows SS)) a d (ms,ds) b (okM bm bd,ps L b d (sv nm::sv vr::fl sb (.rows SS)::fl bm (.rows (ms.map Md.cells))::fl bd (.rows (ds.map Bd.cells))::cz at_)):=fun b hb=>⟨hb,bm,bd,hm,hd0,rfl⟩
  have kE:=fun(b:Nat) (d' e w:Int)=>(⟨b,d',bm,bd,.rows (ms.map Md.cells),.rows (ds.map Bd.cells),rfl⟩:erI L nm vr at_ (fl sb (.rows SS)) e w (erM bm bd,ps L b d' (sv nm::sv vr::fl sb (.rows SS)::fl bm (.rows (ms.map Md.cells))::fl bd (.rows (ds.map Bd.cells))::(cz at_++[iv e,iv w]))))
  have kB:=fun(v:Bd) (b:Nat) (d' e w:Int)=>(⟨b,d',bm,true,.rows (ms.map Md.cells),.rows (ds.map Bd.cells++[tX v]),rfl⟩:erI L nm vr at_ (fl sb (.rows SS)) e w (erM bm true,ps L b d' (sv nm::sv vr::fl sb (.rows SS)::fl bm (.rows (ms.map Md.cells))::fl true (.rows (ds.map Bd.cells++[tX v]))::(cz at_++[iv e,iv w]))))
  have kM:=fun(c:List PV) (b:Nat) (d' e w:Int)=>(⟨b,d',true,bd,.rows (ms.map Md.cells++[c]),.rows (ds.map Bd.cells),rfl⟩:erI L nm vr at_ (fl sb (.rows SS)) e w (erM true bd,ps L b d' (sv nm::sv vr::fl sb (.rows SS)::fl true (.rows (ms.map Md.cells++[c]))::fl bd (.rows (ds.map Bd.cells))::(cz at_++[iv e,iv w]))))
  have aB:=fun(v:Bd) k'=>bD (P:=PG) (d:=.fail) (k:=k') Qc (vL ds) (c:=tX v) rfl (by simp) (by simp;omega) (by decide)
  have aM:=fun(t:Tk) (v:Ty) k'=>bD (P:=PG) (d:=.fail) (k:=k') avp (acL ms) (c:=[sv t.text,iv v.kind,sv v.name,iv v.n,aV v.kids,iv t.at_]) rfl (by simp) (by simp;omega) (by decide)
  refine .of ?_;cases sb<;>cases bm<;>cases bd
  all_goals
   (first|(obtain rfl:=hm rfl)|skip)
   (first|(obtain rfl:=hd0 rfl)|skip)
   simp only[yL,List.map_append,List.map_cons,List.map_nil,List.nil_append,Md.cells,Bd.cells_eq,vg,vk,ps,List.cons_append] at jB jM kO kE kB kM aB aM;rw[gQ.eq_2]
   (first
    |rw[yL,aeh]
    |rw[yL,aef]
    |rw[yL,aee]
    |rw[yL,aeb]
    |rw[yL,aeg]
    |rw[yL,aed]
    |rw[yL,aec]
    |rw[yL,aea]
    )
   simp[-Int.natCast_add,dB hW ha];refine .may (fun he=>?_) (fun he=>?_)
   ·exact .pure (aF hW he) (by simp[-Int.natCast_add,he]) (kO _ (by omega))
   ·simp[-Int.natCast_add,he]
    simp[-Int.natCast_add,dB hW ha];refine .may (fun hd=>?_) (fun hd=>?_)
    ·have hl1:=aF hW hd
     simp[-Int.natCast_add,hd];refine .callW (acv hW m (a+1) d h0 h1 hl1) (fun v b hb hab g=>?_) (fun e w b d' g=>?_)
     ·simp[-Int.natCast_add,g]
      (first|simp only[aB v]|skip)
      refine .take (by decide) (fun hs=>?_) (fun hs=>?_)
      ·have hl2:=aF hW hs
       simp[-Int.natCast_add,aJ hW hb,hs,Tk.cells];have hn:=jB v (b+1) (by omega) hl2;revert hn;generalize gQ L m _ _ d (b+1)=r;intro hn;cases r with
       |out=>trivial
       |err e w=>obtain⟨z,g1,hz⟩:=hn;exact⟨z,by obtain⟨_,_⟩:=z;simp[-Int.natCast_add,g1],hz⟩
       |ok v2 b2=>obtain⟨hb2,z,g1,h5,hz⟩:=hn;exact⟨hb2,z,by obtain⟨_,_⟩:=z;simp[-Int.natCast_add,g1],by omega,hz⟩
      ·exact⟨_,by simp[-Int.natCast_add,aJ hW hb,hs],kB v b d _ _⟩
     ·exact⟨_,by simp[-Int.natCast_add,g],kE b d' _ _⟩
    ·simp[-Int.natCast_add,hd]
     refine .bind (XV hW a d ha) (fun t b z hb g hz=>?_) (fun e w z g hz=>?_)
     ·obtain⟨hab,rfl⟩:=hz
      simp[-Int.natCast_add,g,Tk.cells];refine .take (by decide) (fun hc=>?_) (fun hc=>?_)
      ·have hl3:=aF hW hc
       simp[-Int.natCast_add,aJ hW hb,hc,Tk.cells];refine .callW (amK hW m (b+1) d h0 h1 hl3) (fun v b3 hb3 hab3 g3=>?_) (fun e w b3 d' g3=>?_)
       ·simp[-Int.natCast_add,g3]
        (first|simp only[aM t v]|skip)
        refine .take (by decide) (fun hs=>?_) (fun hs=>?_)
        ·have hl2:=aF hW hs
         simp[-Int.natCast_add,aJ hW hb3,hs,Tk.cells];have hn:=jM (⟨t.text,v,t.at_⟩:Md) (b3+1) (by omega) hl2;revert hn;generalize gQ L m _ _ d (b3+1)=r;intro hn;cases r with
         |out=>trivial
         |err e w=>obtain⟨z,g1,hz⟩:=hn;exact⟨z,by obtain⟨_,_⟩:=z;simp[-Int.natCast_add,g1],hz⟩
         |ok v2 b2=>obtain⟨hb2,z,g1,h5,hz⟩:=hn;exact⟨hb2,z,by obtain⟨_,_⟩:=z;simp[-Int.natCast_add,g1],by omega,hz⟩
        ·exact⟨_,by simp[-Int.natCast_add,aJ hW hb3,hs],kM [sv t.text,iv v.kind,sv v.name,iv v.n,aV v.kids,iv t.at_] b3 d _ _⟩
       ·exact⟨_,by simp[-Int.natCast_add,g3],kE b3 d' _ _⟩
      ·exact⟨_,by simp[-Int.natCast_add,aJ hW hb,hc],kE b d _ _⟩
     ·obtain⟨b,rfl⟩:=hz
      exact⟨_,by simp[-Int.natCast_add,g],kE b d _ _⟩
abbrev pCl(L:List Tk)(a:Nat)(d:Int):Q:=agO (dA L) (iv a) (iv d)
theorem acr(m:Nat):Pa L (pCl L) clC (xX L m):=by
 intro a d h0 h1 ha;refine .weak (aq3 ev _ _ _) (.of ?_);unfold xX;rw[aye];refine .takeK (by decide) (fun k2=>?_) (fun k2=>?_)
 ·have hl1:=hW.fin a (by omega)
  simp[-Int.natCast_add,bY hW ha,k2,Tk.cells];refine .takeK (by decide) (fun k1=>?_) (fun k1=>?_)
  ·have hl2:=hW.fin (a+1) (by omega)
   simp[-Int.natCast_add,bY hW hl1,k1,Tk.cells];simp[-Int.natCast_add,dB hW hl2];unfold OA;cases hf:nJ L BD (a+1+1) with
   |false=>
    simp[-Int.natCast_add,hf];have e0:ax (dZ L BD (kZ L m) (aT [])) (fun sup=>ax (aR L 6 qG) fun _=>ax (gQ L m [] []) fun r=>aT (⟨(ak L a).text,(ak L (a+1)).text,sup,r.1,r.2,(ak L a).at_⟩:Cl)) d (a+1+1)=ax (aR L 6 qG) (fun _=>ax (gQ L m [] []) fun r=>aT (⟨(ak L a).text,(ak L (a+1)).text,[],r.1,r.2,(ak L a).at_⟩:Cl)) d (a+1+1):=by
     conv=>lhs;unfold ax dZ
     rw[hf];rfl
    rw[e0];refine .take (by decide) (fun hw=>?_) (fun hw=>?_)
    ·have hl4:=aF hW hw
     simp[-Int.natCast_add,aJ hW hl2,hw,Tk.cells];have hn:=RY hW (ak L a).text (ak L (a+1)).text (ak L a).at_ [] false m false false [] [] ((a+1+1)+1) d (fun _=>rfl) (fun _=>rfl) (by simp) h0 h1 hl4;refine .bind hn (fun r b z hb g hz=>?_) (fun e w z g hz=>?_)
     ·obtain⟨hab,bm,bd,hx,hy,rfl⟩:=hz
      unfold yL at g;cases bm<;>cases bd
      ·exact .pure hb (by simp[-Int.natCast_add,g]) (.of (m:=[0,0,0,0,1,0,0,0,0]) (k:=0) (ys:=[sv (ak L a).text,sv (ak L (a+1)).text,nS,nS,nS,iv (ak L a).at_]) (by omega) rfl (by simp[hx rfl,hy rfl,tJ,Br,gX,strs,jb,bg]))
      ·exact .pure hb (by simp[-Int.natCast_add,g]) (.of (m:=[0,0,0,0,1,0,0,0,0]) (k:=1) (ys:=[sv (ak L a).text,sv (ak L (a+1)).text,nS,nS,.rows (r.2.map Bd.cells),iv (ak L a).at_]) (by omega) rfl (by simp[hx rfl,tJ,Br,gX,strs,jb,bg]))
      ·exact .pure hb (by simp[-Int.natCast_add,g]) (.of (m:=[0,0,0,0,1,0,0,0,0]) (k:=2) (ys:=[sv (ak L a).text,sv (ak L (a+1)).text,nS,.rows (r.1.map Md.cells),nS,iv (ak L a).at_]) (by omega) rfl (by simp[hy rfl,tJ,Br,gX,strs,jb,bg]))
      ·exact .pure hb (by simp[-Int.natCast_add,g]) (.of (m:=[0,0,0,0,1,0,0,0,0]) (k:=3) (ys:=[sv (ak L a).text,sv (ak L (a+1)).text,nS,.rows (r.1.map Md.cells),.rows (r.2.map Bd.cells),iv (ak L a).at_]) (by omega) rfl (by simp[tJ,Br,gX,strs,jb,bg]))
     ·obtain⟨b,d',bm,bd,T,U,rfl⟩:=hz
      unfold yL at g;cases bm<;>cases bd
      all_goals exact⟨_,by simp[-Int.natCast_add,g],.of (m:=[0,0,0,0,1,0,0,0,0]) (b:=b) (d:=d') (k:=4) rfl⟩
    ·exact⟨_,by simp[-Int.natCast_add,aJ hW hl2,hw],.of (m:=[0,0,0,0,1,0,0,0,0]) (b:=(a+1+1)) (d:=d) (k:=4) rfl⟩
   |true=>
    have hl3:=aF hW hf;simp[-Int.natCast_add,hf];have e0:ax (dZ L BD (kZ L m) (aT [])) (fun sup=>ax (aR L 6 qG) fun _=>ax (gQ L m [] []) fun r=>aT (⟨(ak L a).text,(ak L (a+1)).text,sup,r.1,r.2,(ak L a).at_⟩:Cl)) d (a+1+1)=ax (kZ L m) (fun sup=>ax (aR L 6 qG) fun _=>ax (gQ L m [] []) fun r=>aT (⟨(ak L a).text,(ak L (a+1)).text,sup,r.1,r.2,(ak L a).at_⟩:Cl)) d (a+1+1+1):=by
     conv=>lhs;unfold ax dZ
     rw[hf];rfl
    rw[e0];refine .bind (Ju hW m (a+1+1+1) d hl3) (fun sup b3 z hb3 g3 hz=>?_) (fun e w z g3 hz=>?_)
    ·obtain⟨hab3,hl5,rfl⟩:=hz
     have gw:=Jd g3;simp[-Int.natCast_add,g3,gw];refine .take (by decide) (fun hw=>?_) (fun hw=>?_)
     ·have hl4:=aF hW hw
      simp[-Int.natCast_add,aJ hW hb3,hw,Tk.cells];have hn:=RY hW (ak L a).text (ak L (a+1)).text (ak L a).at_ (sup.map fun s=>[sv s]) true m false false [] [] (b3+1) d (fun _=>rfl) (fun _=>rfl) (by simp) h0 h1 hl4;refine .bind hn (fun r b z hb g hz=>?_) (fun e w z g hz=>?_)
      ·obtain⟨hab,bm,bd,hx,hy,rfl⟩:=hz
       unfold yL at g;cases bm<;>cases bd
       ·exact .pure hb (by simp[-Int.natCast_add,g]) (.of (m:=[0,0,0,0,1,0,0,0,0]) (k:=5) (ys:=[sv (ak L a).text,sv (ak L (a+1)).text,(.rows (sup.map fun s=>[sv s])),nS,nS,iv (ak L a).at_]) (by omega) rfl (by simp[hx rfl,hy rfl,tJ,Br,gX,strs,jb,bg]))
       ·exact .pure hb (by simp[-Int.natCast_add,g]) (.of (m:=[0,0,0,0,1,0,0,0,0]) (k:=6) (ys:=[sv (ak L a).text,sv (ak L (a+1)).text,(.rows (sup.map fun s=>[sv s])),nS,.rows (r.2.map Bd.cells),iv (ak L a).at_]) (by omega) rfl (by simp[hx rfl,tJ,Br,gX,strs,jb,bg]))
       ·exact .pure hb (by simp[-Int.natCast_add,g]) (.of (m:=[0,0,0,0,1,0,0,0,0]) (k:=7) (ys:=[sv (ak L a).text,sv (ak L (a+1)).text,(.rows (sup.map fun s=>[sv s])),.rows (r.1.map Md.cells),nS,iv (ak L a).at_]) (by omega) rfl (by simp[hy rfl,tJ,Br,gX,strs,jb,bg]))
       ·exact .pure hb (by simp[-Int.natCast_add,g]) (.of (m:=[0,0,0,0,1,0,0,0,0]) (k:=8) (ys:=[sv (ak L a).text,sv (ak L (a+1)).text,(.rows (sup.map fun s=>[sv s])),.rows (r.1.map Md.cells),.rows (r.2.map Bd.cells),iv (ak L a).at_]) (by omega) rfl (by simp[tJ,Br,gX,strs,jb,bg]))
      ·obtain⟨b,d',bm,bd,T,U,rfl⟩:=hz
       unfold yL at g;cases bm<;>cases bd
       all_goals exact⟨_,by simp[-Int.natCast_add,g],.of (m:=[0,0,0,0,1,0,0,0,0]) (b:=b) (d:=d') (k:=4) rfl⟩
     ·exact⟨_,by simp[-Int.natCast_add,aJ hW hb3,hw],.of (m:=[0,0,0,0,1,0,0,0,0]) (b:=b3) (d:=d) (k:=4) rfl⟩
    ·obtain⟨b3,rfl⟩:=hz
     have gw:=Dz g3;exact⟨_,by simp[-Int.natCast_add,g3,gw],.of (m:=[0,0,0,0,1,0,0,0,0]) (b:=b3) (d:=d) (k:=4) rfl⟩
  ·exact⟨_,by simp[-Int.natCast_add,bY hW hl1,k1],.of (m:=[0,0,0,0,1,0,0,0,0]) (b:=a+1) (d:=d) (k:=4) rfl⟩
 ·exact⟨_,by simp[bY hW ha,k2],.of (m:=[0,0,0,0,1,0,0,0,0]) (b:=a) (d:=d) (k:=4) rfl⟩
end
set_option maxRecDepth 10000
abbrev iz(da:Int):List PV:=[iv da,sv eB,iv 0,sv eB,iv 0,nS,nS,nS,iv 0]
def Xa(c v:ByteArray):Pd:=⟨c,.mk 1 v 0 []⟩
theorem TV(c v:ByteArray):fC [sv c,iv 1,sv v,iv 0,nS]=(Xa c v).cells∧jh [sv c,iv 1,sv v,iv 0,nS]:=⟨by simp[Pd.cells,Xa,aV],by simp⟩
abbrev ih5(nm:ByteArray)(h:Ty):List PV:=[sv nm,iv h.kind,sv h.name,iv h.n,aV h.kids]
section
variable{L:List Tk}(hW:I6 L)
include hW
theorem amQ(nm:ByteArray)(h:Ty)(at_:Int):∀(m:Nat) (l:List Pd) (CC:List (List PV)) (a:Nat) (d:Int),Raw 5 CC (l.map Pd.cells)→l.length≤a→0≤d→d≤300→a<L.length→pW L (Sr (dA L) (iv a) (iv d) (sv nm) (iv h.kind) (sv h.name) (iv h.n) (aV h.kids) CC (iv at_)) (qN L m l d a)
  (fun v b z=>a≤b∧∃B',Raw 5 B' (v.map Pd.cells)∧z=(0,ps L b d (ih5 nm h ++ .rows B'::nS::iz at_))) (fun e w z=>∃(b:Nat) (T:PV),z=(2,ps L b d (ih5 nm h++T::nS::(iz at_++[iv e,iv w])))):=by
 intro m
 induction m with
 |zero=>intro l CC a d hr hl h0 h1 ha;rw[qN];trivial
 |succ m ih=>
  intro l CC a d hr hl h0 h1 ha;refine .of ?_;rw[qN.eq_2,ad8];have hLl:=hW.len;refine .takeK (by decide) (fun k2=>?_) (fun k2=>?_)
  ·have hl1:=hW.fin a (by omega)
   simp[-Int.natCast_add,bY hW ha,k2,Tk.cells];refine .takeK (by decide) (fun k1=>?_) (fun k1=>?_)
   ·have hl2:=hW.fin (a+1) (by omega)
    have hx:=TV (ak L a).text (ak L (a+1)).text;have hk:Raw 5 (CC++[[sv (ak L a).text,iv 1,sv (ak L (a+1)).text,iv 0,nS]]) ((l++[Xa (ak L a).text (ak L (a+1)).text]).map Pd.cells):=by
     rw[List.map_append,List.map_cons,List.map_nil];exact hr.app hx.1 rfl hx.2
    simp[-Int.natCast_add,bY hW hl1,k1,Tk.cells];have hap:=fun k'=>bD (P:=PG) (d:=.fail) (k:=k') avo hr (c:=[sv (ak L a).text,iv 1,sv (ak L (a+1)).text,iv 0,nS]) rfl hx.2 (by have:=hr.len;simp at this;omega) (by decide)
    simp only[hap];simp[-Int.natCast_add,dB hW hl2];refine .may (fun hs=>?_) (fun hs=>?_)
    ·have hl3:=aF hW hs
     simp[-Int.natCast_add,hs];have hn:=ih _ _ (a+1+1+1) d hk (by simp;omega) h0 h1 hl3;simp only[List.cons_append,List.nil_append] at hn;cases hr2:qN L m (l++[Xa (ak L a).text (ak L (a+1)).text]) d (a+1+1+1) with
     |out=>have hr2:=hr2;unfold Xa at hr2;rw[hr2];trivial
     |err e w=>rw[hr2] at hn;unfold Xa at hr2;rw[hr2];obtain⟨z,g1,b2,T,rfl⟩:=hn;exact⟨_,by simp[-Int.natCast_add,g1],b2,T,rfl⟩
     |ok v2 b2=>rw[hr2] at hn;unfold Xa at hr2;rw[hr2];obtain⟨hb2,z,g1,h6,B',h7,rfl⟩:=hn;exact⟨hb2,_,by simp[-Int.natCast_add,g1],by omega,B',h7,rfl⟩
    ·exact .pure hl2 (by simp[-Int.natCast_add,hs]) ⟨by omega,_,hk,rfl⟩
   ·exact⟨_,by simp[-Int.natCast_add,bY hW hl1,k1],a+1,.rows CC,rfl⟩
  ·exact⟨_,by simp[bY hW ha,k2],a,.rows CC,rfl⟩
theorem ai3(nm:ByteArray)(h:Ty)(at_:Int)(m:Nat)(a:Nat)(d:Int)(h0:0≤d)(h1:d≤300)(ha:a<L.length):pW L (Sv (dA L) (iv a) (iv d) (sv nm) (iv h.kind) (sv h.name) (iv h.n) (aV h.kids) (iv at_)) (qN L m [] d a)
  (fun v b z=>a≤b∧∃B',Raw 5 B' (v.map Pd.cells)∧z=(0,ps L b d (ih5 nm h ++ .rows B'::nS::iz at_))) (fun e w z=>∃(b:Nat),z=(1,ps L b d (ih5 nm h++nS::nS::(iz at_++[iv e,iv w])))∨∃(T:PV),z=(2,ps L b d (ih5 nm h++T::nS::(iz at_++[iv e,iv w])))):=by
 cases m with
 |zero=>rw[qN];trivial
 |succ m=>
  refine .of ?_;rw[qN.eq_2,ad9];have hLl:=hW.len;refine .takeK (by decide) (fun k2=>?_) (fun k2=>?_)
  ·have hl1:=hW.fin a (by omega)
   simp[-Int.natCast_add,bY hW ha,k2,Tk.cells];refine .takeK (by decide) (fun k1=>?_) (fun k1=>?_)
   ·have hl2:=hW.fin (a+1) (by omega)
    have hx:=TV (ak L a).text (ak L (a+1)).text;have hk:Raw 5 ([]++[[sv (ak L a).text,iv 1,sv (ak L (a+1)).text,iv 0,nS]]) (([]++[Xa (ak L a).text (ak L (a+1)).text]).map Pd.cells):=by
     rw[List.map_append,List.map_cons,List.map_nil];exact(Raw.nil 5).app hx.1 rfl hx.2
    simp[-Int.natCast_add,bY hW hl1,k1,Tk.cells];simp[-Int.natCast_add,dB hW hl2];refine .may (fun hs=>?_) (fun hs=>?_)
    ·have hl3:=aF hW hs
     simp[-Int.natCast_add,hs];have hn:=amQ hW nm h at_ m _ _ (a+1+1+1) d hk (by simp) h0 h1 hl3;simp only[List.cons_append,List.nil_append] at hn;cases hr2:qN L m [Xa (ak L a).text (ak L (a+1)).text] d (a+1+1+1) with
     |out=>have hr2:=hr2;unfold Xa at hr2;rw[hr2];trivial
     |err e w=>rw[hr2] at hn;unfold Xa at hr2;rw[hr2];obtain⟨z,g1,b2,T,rfl⟩:=hn;exact⟨_,by simp[-Int.natCast_add,g1],b2,.inr ⟨T,rfl⟩⟩
     |ok v2 b2=>rw[hr2] at hn;unfold Xa at hr2;rw[hr2];obtain⟨hb2,z,g1,h6,B',h7,rfl⟩:=hn;exact⟨hb2,_,by simp[-Int.natCast_add,g1],by omega,B',h7,rfl⟩
    ·exact .pure hl2 (by simp[-Int.natCast_add,hs]) ⟨by omega,_,hk,rfl⟩
   ·exact⟨_,by simp[-Int.natCast_add,bY hW hl1,k1],a+1,.inl rfl⟩
  ·exact⟨_,by simp[bY hW ha,k2],a,.inl rfl⟩
section
omit hW
variable(L)(nm:ByteArray)(h:Ty)(at_:Int)(XX:List (List PV))(a:Nat)(d:Int)
def qF3(l:List (List PV)):Bool→Q
 |false=>Sl (dA L) (iv a) (iv d) (sv nm) (iv h.kind) (sv h.name) (iv h.n) (aV h.kids) l (iv at_)
 |true=>Sk (dA L) (iv a) (iv d) (sv nm) (iv h.kind) (sv h.name) (iv h.n) (aV h.kids) XX l (iv at_)
def qF2:Bool→Q
 |false=>Sq (dA L) (iv a) (iv d) (sv nm) (iv h.kind) (sv h.name) (iv h.n) (aV h.kids) (iv at_)
 |true=>Sn (dA L) (iv a) (iv d) (sv nm) (iv h.kind) (sv h.name) (iv h.n) (aV h.kids) XX (iv at_)
end
theorem ai1(nm:ByteArray)(h:Ty)(at_:Int)(XX:List (List PV))(p:Bool):∀(m:Nat) (l:List Bd) (a:Nat) (d:Int),l.length≤a→0≤d→d≤300→a<L.length→pW L (qF3 L nm h at_ XX a d (l.map Bd.cells) p) (jJ L m l d a)
  (fun v b z=>a≤b∧z=(3,ps L b d (ih5 nm h++fl p (.rows XX) :: .rows (v.map Bd.cells)::iz at_))) (fun e w z=>∃(b:Nat) (d':Int) (T:PV),z=(1,ps L b d' (ih5 nm h++fl p (.rows XX)::T::(iz at_++[iv e,iv w])))):=by
 intro m
 induction m with
 |zero=>intro l a d hl h0 h1 ha;rw[jJ];trivial
 |succ m ih=>
  intro l a d hl h0 h1 ha;refine .of ?_;rw[jJ.eq_2];cases p
  all_goals
   (first|rw[qF3,ad5]|rw[qF3,ad4])
   have hLl:=hW.len;simp[-Int.natCast_add,dB hW ha];refine .may (fun he=>?_) (fun he=>?_)
   ·exact .pure (aF hW he) (by simp[-Int.natCast_add,he]) ⟨by omega,rfl⟩
   ·simp[-Int.natCast_add,he]
    refine .take (by decide) (fun hd=>?_) (fun hd=>?_)
    ·have hl1:=aF hW hd
     simp[-Int.natCast_add,aJ hW ha,hd,Tk.cells];refine .callW (acv hW m (a+1) d h0 h1 hl1) (fun v b hb hab g=>?_) (fun e w b d' g=>?_)
     ·simp[-Int.natCast_add,g]
      have hap:=fun k'=>bD (P:=PG) (d:=.fail) (k:=k') Qc (vL l) (c:=tX v) rfl (by simp) (by simp;omega) (by decide)
      simp only[hap];refine .take (by decide) (fun hs=>?_) (fun hs=>?_)
      ·have hl2:=aF hW hs
       simp[-Int.natCast_add,aJ hW hb,hs,Tk.cells];have hn:=ih (l++[v]) (b+1) d (by simp;omega) h0 h1 hl2;simp only[List.map_append,List.map_cons,List.map_nil,Bd.cells_eq,qF3,vg,vk] at hn;cases hr:jJ L m (l++[v]) d (b+1) with
       |out=>trivial
       |err e w=>rw[hr] at hn;obtain⟨z,g1,b2,d',hz⟩:=hn;obtain⟨T,rfl⟩:=hz;exact⟨_,by simp[-Int.natCast_add,g1],b2,d',T,rfl⟩
       |ok v2 b2=>rw[hr] at hn;obtain⟨hb2,z,g1,h5,rfl⟩:=hn;exact⟨hb2,_,by simp[-Int.natCast_add,g1],by omega,rfl⟩
      ·exact⟨_,by simp[-Int.natCast_add,aJ hW hb,hs],b,d,.rows (l.map Bd.cells++[tX v]),rfl⟩
     ·exact⟨_,by simp[-Int.natCast_add,g],b,d',.rows (l.map Bd.cells),rfl⟩
    ·exact⟨_,by simp[-Int.natCast_add,aJ hW ha,hd],a,d,.rows (l.map Bd.cells),rfl⟩
theorem RZ(nm:ByteArray)(h:Ty)(at_:Int)(XX:List (List PV))(p:Bool)(m:Nat)(a:Nat)(d:Int)(h0:0≤d)(h1:d≤300)(ha:a<L.length):pW L (qF2 L nm h at_ XX a d p) (jJ L m [] d a)
  (fun v b z=>a≤b∧(v=[]∧z=(0,ps L b d (ih5 nm h++fl p (.rows XX)::nS::iz at_))∨z=(3,ps L b d (ih5 nm h++fl p (.rows XX) :: .rows (v.map Bd.cells)::iz at_)))) (fun e w z=>∃(b:Nat) (d':Int),z=(2,ps L b d' (ih5 nm h++fl p (.rows XX)::nS::(iz at_++[iv e,iv w])))∨∃(T:PV),z=(1,ps L b d' (ih5 nm h++fl p (.rows XX)::T::(iz at_++[iv e,iv w])))):=by
 cases m with
 |zero=>rw[jJ];trivial
 |succ m=>
  refine .of ?_;rw[jJ.eq_2];have hZ:=ai1 hW nm h at_ XX p m;cases p
  all_goals
   simp only[qF3,vg,vk] at hZ
   (first|rw[qF2,ad7]|rw[qF2,ad6])
   have hLl:=hW.len;simp[-Int.natCast_add,dB hW ha];refine .may (fun he=>?_) (fun he=>?_)
   ·exact .pure (aF hW he) (by simp[-Int.natCast_add,he]) ⟨by omega,.inl ⟨rfl,rfl⟩⟩
   ·simp[-Int.natCast_add,he]
    refine .take (by decide) (fun hd=>?_) (fun hd=>?_)
    ·have hl1:=aF hW hd
     simp[-Int.natCast_add,aJ hW ha,hd,Tk.cells];refine .callW (acv hW m (a+1) d h0 h1 hl1) (fun v b hb hab g=>?_) (fun e w b d' g=>?_)
     ·simp[-Int.natCast_add,g]
      refine .take (by decide) (fun hs=>?_) (fun hs=>?_)
      ·have hl2:=aF hW hs
       simp[-Int.natCast_add,aJ hW hb,hs,Tk.cells];have hn:=hZ [v] (b+1) d (by simp) h0 h1 hl2;simp only[List.map_append,List.map_cons,List.map_nil,Bd.cells_eq,qF3,vg,vk] at hn;cases hr:jJ L m [v] d (b+1) with
       |out=>trivial
       |err e w=>rw[hr] at hn;obtain⟨z,g1,b2,d',hz⟩:=hn;obtain⟨T,rfl⟩:=hz;exact⟨_,by simp[-Int.natCast_add,g1],b2,d',.inr ⟨T,rfl⟩⟩
       |ok v2 b2=>rw[hr] at hn;obtain⟨hb2,z,g1,h5,rfl⟩:=hn;exact⟨hb2,_,by simp[-Int.natCast_add,g1],by omega,.inr rfl⟩
      ·exact⟨_,by simp[-Int.natCast_add,aJ hW hb,hs],b,d,.inr ⟨.rows [tX v],rfl⟩⟩
     ·exact⟨_,by simp[-Int.natCast_add,g],b,d',.inl rfl⟩
    ·exact⟨_,by simp[-Int.natCast_add,aJ hW ha,hd],a,d,.inl rfl⟩
abbrev pIt(L:List Tk)(a:Nat)(d:Int):Q:=agN (dA L) (iv a) (iv d)
theorem ai0(m:Nat):Pa L (pIt L) itC (nV L m):=by
 intro a d h0 h1 ha;refine .weak (aq2 ev _ _ _) (.of ?_);unfold nV;rw[ayd];refine .takeK (by decide) (fun k2=>?_) (fun k2=>?_)
 ·have hl1:=hW.fin a (by omega)
  simp[-Int.natCast_add,bY hW ha,k2,Tk.cells];refine .callW (s_at hW m (a+1) d h0 h1 hl1) (fun h b hb hab g=>?_) (fun e w b d' g=>?_)
  ·simp[-Int.natCast_add,g]
   simp[-Int.natCast_add,dB hW hb];cases hf:nJ L BD b with
   |false=>
    simp[-Int.natCast_add,hf];have e0:ax (dZ L BD (qN L m []) (aT [])) (fun c=>ax (aR L 6 qG) fun _=>ax (jJ L m []) fun bs=>aT (⟨(ak L a).text,h,c,bs,(ak L a).at_⟩:It)) d b=ax (aR L 6 qG) (fun _=>ax (jJ L m []) fun bs=>aT (⟨(ak L a).text,h,[],bs,(ak L a).at_⟩:It)) d b:=by
     conv=>lhs;unfold ax dZ
     rw[hf];rfl
    rw[e0];refine .take (by decide) (fun hw=>?_) (fun hw=>?_)
    ·have hl4:=aF hW hw
     simp[-Int.natCast_add,aJ hW hb,hw,Tk.cells];refine .bind (RZ hW (ak L a).text h (ak L a).at_ [] false m (b+1) d h0 h1 hl4) (fun bs b4 z hb4 g4 hz=>?_) (fun e w z g4 hz=>?_)
     all_goals simp only[qF2] at g4
     ·obtain⟨hab4,⟨rfl,rfl⟩|rfl⟩:=hz
      ·exact .pure hb4 (by simp[-Int.natCast_add,g4]) (.of (m:=[0,0,1,0,0]) (k:=0) (ys:=ih5 (ak L a).text h++[nS,nS,iv (ak L a).at_]) (by omega) rfl (by simp[jT,bg]))
      ·exact .pure hb4 (by simp[-Int.natCast_add,g4]) (.of (m:=[0,0,1,0,0]) (k:=1) (ys:=ih5 (ak L a).text h++[nS,.rows (bs.map Bd.cells),iv (ak L a).at_]) (by omega) rfl (by simp[jT,bg,gX,bg]))
     ·obtain⟨b4,d',rfl|⟨T,rfl⟩⟩:=hz
      ·exact⟨_,by simp[-Int.natCast_add,g4],.of (m:=[0,0,1,0,0]) (b:=b4) (d:=d') (k:=2) rfl⟩
      ·exact⟨_,by simp[-Int.natCast_add,g4],.of (m:=[0,0,1,0,0]) (b:=b4) (d:=d') (k:=2) rfl⟩
    ·exact⟨_,by simp[-Int.natCast_add,aJ hW hb,hw],.of (m:=[0,0,1,0,0]) (b:=b) (d:=d) (k:=2) rfl⟩
   |true=>
    have hl3:=aF hW hf;simp[-Int.natCast_add,hf];have e0:ax (dZ L BD (qN L m []) (aT [])) (fun c=>ax (aR L 6 qG) fun _=>ax (jJ L m []) fun bs=>aT (⟨(ak L a).text,h,c,bs,(ak L a).at_⟩:It)) d b=ax (qN L m []) (fun c=>ax (aR L 6 qG) fun _=>ax (jJ L m []) fun bs=>aT (⟨(ak L a).text,h,c,bs,(ak L a).at_⟩:It)) d (b+1):=by
     conv=>lhs;unfold ax dZ
     rw[hf];rfl
    rw[e0];refine .bind (ai3 hW (ak L a).text h (ak L a).at_ m (b+1) d h0 h1 hl3) (fun c b3 z hb3 g3 hz=>?_) (fun e w z g3 hz=>?_)
    ·obtain⟨hab3,B,hB,rfl⟩:=hz
     simp[-Int.natCast_add,g3];refine .take (by decide) (fun hw=>?_) (fun hw=>?_)
     ·have hl4:=aF hW hw
      simp[-Int.natCast_add,aJ hW hb3,hw,Tk.cells];refine .bind (RZ hW (ak L a).text h (ak L a).at_ B true m (b3+1) d h0 h1 hl4) (fun bs b4 z hb4 g4 hz=>?_) (fun e w z g4 hz=>?_)
      all_goals simp only[qF2] at g4
      ·obtain⟨hab4,⟨rfl,rfl⟩|rfl⟩:=hz
       ·exact .pure hb4 (by simp[-Int.natCast_add,g4]) (.of (m:=[0,0,1,0,0]) (k:=3) (ys:=ih5 (ak L a).text h++[.rows B,nS,iv (ak L a).at_]) (by omega) rfl (by simp[hB.wd,jT]))
       ·exact .pure hb4 (by simp[-Int.natCast_add,g4]) (.of (m:=[0,0,1,0,0]) (k:=4) (ys:=ih5 (ak L a).text h++[.rows B,.rows (bs.map Bd.cells),iv (ak L a).at_]) (by omega) rfl (by simp[hB.wd,jT,gX,bg]))
      ·obtain⟨b4,d',rfl|⟨T,rfl⟩⟩:=hz
       ·exact⟨_,by simp[-Int.natCast_add,g4],.of (m:=[0,0,1,0,0]) (b:=b4) (d:=d') (k:=2) rfl⟩
       ·exact⟨_,by simp[-Int.natCast_add,g4],.of (m:=[0,0,1,0,0]) (b:=b4) (d:=d') (k:=2) rfl⟩
     ·exact⟨_,by simp[-Int.natCast_add,aJ hW hb3,hw],.of (m:=[0,0,1,0,0]) (b:=b3) (d:=d) (k:=2) rfl⟩
    ·obtain⟨b3,rfl|⟨T,rfl⟩⟩:=hz
     ·exact⟨_,by simp[-Int.natCast_add,g3],.of (m:=[0,0,1,0,0]) (b:=b3) (d:=d) (k:=2) rfl⟩
     ·exact⟨_,by simp[-Int.natCast_add,g3],.of (m:=[0,0,1,0,0]) (b:=b3) (d:=d) (k:=2) rfl⟩
  ·exact⟨_,by simp[-Int.natCast_add,g],.of (m:=[0,0,1,0,0]) (b:=b) (d:=d') (k:=2) rfl⟩
 ·exact⟨_,by simp[bY hW ha,k2],.of (m:=[0,0,1,0,0]) (b:=a) (d:=d) (k:=2) rfl⟩
end
set_option maxRecDepth 10000
set_option maxHeartbeats 4000000
def LA:Bool→Bool→Bool→Bool→Nat
 |false,false,false,false=>5
 |false,false,false,true=>15
 |false,false,true,false=>14
 |false,false,true,true=>25
 |false,true,false,false=>12
 |false,true,false,true=>24
 |false,true,true,false=>23
 |false,true,true,true=>30
 |true,false,false,false=>9
 |true,false,false,true=>21
 |true,false,true,false=>20
 |true,false,true,true=>29
 |true,true,false,false=>18
 |true,true,false,true=>28
 |true,true,true,false=>27
 |true,true,true,true=>31
@[simp] theorem azF:LA false false false false=5:=rfl
@[simp] theorem azJ:LA false false false true=15:=rfl
@[simp] theorem azG:LA false false true false=14:=rfl
@[simp] theorem axA:LA false false true true=25:=rfl
@[simp] theorem azI:LA false true false false=12:=rfl
@[simp] theorem axF:LA false true false true=24:=rfl
@[simp] theorem axE:LA false true true false=23:=rfl
@[simp] theorem atI:LA false true true true=30:=rfl
@[simp] theorem azH:LA true false false false=9:=rfl
@[simp] theorem axD:LA true false false true=21:=rfl
@[simp] theorem axB:LA true false true false=20:=rfl
@[simp] theorem atF:LA true false true true=29:=rfl
@[simp] theorem axC:LA true true false false=18:=rfl
@[simp] theorem atH:LA true true false true=28:=rfl
@[simp] theorem atG:LA true true true false=27:=rfl
@[simp] theorem aqy:LA true true true true=31:=rfl
def GD:Bool→Bool→Bool→Bool→Nat
 |false,false,false,false=>1
 |false,false,false,true=>4
 |false,false,true,false=>3
 |false,false,true,true=>13
 |false,true,false,false=>2
 |false,true,false,true=>11
 |false,true,true,false=>10
 |false,true,true,true=>22
 |true,false,false,false=>0
 |true,false,false,true=>8
 |true,false,true,false=>7
 |true,false,true,true=>19
 |true,true,false,false=>6
 |true,true,false,true=>17
 |true,true,true,false=>16
 |true,true,true,true=>26
@[simp] theorem azV:GD false false false false=1:=rfl
@[simp] theorem azZ:GD false false false true=4:=rfl
@[simp] theorem azW:GD false false true false=3:=rfl
@[simp] theorem ayv:GD false false true true=13:=rfl
@[simp] theorem azY:GD false true false false=2:=rfl
@[simp] theorem ayA:GD false true false true=11:=rfl
@[simp] theorem ayz:GD false true true false=10:=rfl
@[simp] theorem at1:GD false true true true=22:=rfl
@[simp] theorem azX:GD true false false false=0:=rfl
@[simp] theorem ayy:GD true false false true=8:=rfl
@[simp] theorem ayw:GD true false true false=7:=rfl
@[simp] theorem atX:GD true false true true=19:=rfl
@[simp] theorem ayx:GD true true false false=6:=rfl
@[simp] theorem atZ:GD true true false true=17:=rfl
@[simp] theorem atY:GD true true true false=16:=rfl
@[simp] theorem asx:GD true true true true=26:=rfl
def Ig(L:List Tk)(a:Nat)(d:Int):Bool→Bool→Bool→Bool→List Dt→List Cl→List It→List Bd→Q
 |false,false,false,false,_,_,_,_=>TP (dA L) (iv a) (iv d)
 |false,false,false,true,_,_,_,B=>TK (dA L) (iv a) (iv d) (B.map Bd.cells)
 |false,false,true,false,_,_,I,_=>TL (dA L) (iv a) (iv d) (I.map It.cells)
 |false,false,true,true,_,_,I,B=>TD (dA L) (iv a) (iv d) (I.map It.cells) (B.map Bd.cells)
 |false,true,false,false,_,C,_,_=>TM (dA L) (iv a) (iv d) (C.map Cl.cells)
 |false,true,false,true,_,C,_,B=>TF (dA L) (iv a) (iv d) (C.map Cl.cells) (B.map Bd.cells)
 |false,true,true,false,_,C,I,_=>TG (dA L) (iv a) (iv d) (C.map Cl.cells) (I.map It.cells)
 |false,true,true,true,_,C,I,B=>Tv (dA L) (iv a) (iv d) (C.map Cl.cells) (I.map It.cells) (B.map Bd.cells)
 |true,false,false,false,D,_,_,_=>TN (dA L) (iv a) (iv d) (D.map Dt.cells)
 |true,false,false,true,D,_,_,B=>TH (dA L) (iv a) (iv d) (D.map Dt.cells) (B.map Bd.cells)
 |true,false,true,false,D,_,I,_=>TI (dA L) (iv a) (iv d) (D.map Dt.cells) (I.map It.cells)
 |true,false,true,true,D,_,I,B=>Tw (dA L) (iv a) (iv d) (D.map Dt.cells) (I.map It.cells) (B.map Bd.cells)
 |true,true,false,false,D,C,_,_=>TJ (dA L) (iv a) (iv d) (D.map Dt.cells) (C.map Cl.cells)
 |true,true,false,true,D,C,_,B=>Tz (dA L) (iv a) (iv d) (D.map Dt.cells) (C.map Cl.cells) (B.map Bd.cells)
 |true,true,true,false,D,C,I,_=>TB (dA L) (iv a) (iv d) (D.map Dt.cells) (C.map Cl.cells) (I.map It.cells)
 |true,true,true,true,D,C,I,B=>Tq (dA L) (iv a) (iv d) (D.map Dt.cells) (C.map Cl.cells) (I.map It.cells) (B.map Bd.cells)
abbrev NA(D:List Dt)(C:List Cl)(I:List It)(B:List Bd):Pg:=⟨⟨D,C,I⟩,B⟩
abbrev YI(b1 b2 b3 b4:Bool)(T U V W:List (List PV)):List PV:=[fl b1 (.rows T),fl b2 (.rows U),fl b3 (.rows V),fl b4 (.rows W),nS,nS,nS,nS]
def okG(L:List Tk)(a:Nat)(d:Int)(v:Pg)(b:Nat)(z:Rs):Prop:=a≤b∧∃b1 b2 b3 b4:Bool,(b1=false→v.datas=[])∧(b2=false→v.classes=[])∧(b3=false→v.insts=[])∧(b4=false→v.binds=[])∧z=(LA b1 b2 b3 b4,ps L b d (YI b1 b2 b3 b4 (v.datas.map Dt.cells) (v.classes.map Cl.cells) (v.insts.map It.cells) (v.binds.map Bd.cells)))
def erG(L:List Tk)(e w:Int)(z:Rs):Prop:=∃(b:Nat) (d':Int) (b1 b2 b3 b4:Bool) (T U V W:List (List PV)),z=(GD b1 b2 b3 b4,ps L b d' (YI b1 b2 b3 b4 T U V W++[iv e,iv w]))
section
variable{L:List Tk}(hW:I6 L)
include hW
theorem acm:∀(m:Nat) (b1 b2 b3 b4:Bool) (D:List Dt) (C:List Cl) (I:List It) (B:List Bd) (a:Nat) (d:Int),(b1=false→D=[])→(b2=false→C=[])→(b3=false→I=[])→(b4=false→B=[])→D.length+C.length+I.length+B.length≤a→0≤d→d≤300→a<L.length→pW L (Ig L a d b1 b2 b3 b4 D C I B) (dX L m (NA D C I B) d a) (okG L a d) (erG L):=by
 intro m
 induction m with
 |zero=>intro b1 b2 b3 b4 D C I B a d _ _ _ _ _ _ _ _;rw[dX];trivial
 |succ m ih=>
  intro b1 b2 b3 b4 D C I B a d i1 i2 i3 i4 hl h0 h1 ha;have hLl:=hW.len;have jD:=fun(v:Dt) (b:Nat) (hab:a<b) (hb:b<L.length)=>ih true b2 b3 b4 (D++[v]) C I B b d (fun h=>by cases h) i2 i3 i4 (by simp only[List.length_append,List.length_cons,List.length_nil];omega) h0 h1 hb
  have jC:=fun(v:Cl) (b:Nat) (hab:a<b) (hb:b<L.length)=>ih b1 true b3 b4 D (C++[v]) I B b d i1 (fun h=>by cases h) i3 i4 (by simp only[List.length_append,List.length_cons,List.length_nil];omega) h0 h1 hb
  have jI:=fun(v:It) (b:Nat) (hab:a<b) (hb:b<L.length)=>ih b1 b2 true b4 D C (I++[v]) B b d i1 i2 (fun h=>by cases h) i4 (by simp only[List.length_append,List.length_cons,List.length_nil];omega) h0 h1 hb
  have jB:=fun(v:Bd) (b:Nat) (hab:a<b) (hb:b<L.length)=>ih b1 b2 b3 true D C I (B++[v]) b d i1 i2 i3 (fun h=>by cases h) (by simp only[List.length_append,List.length_cons,List.length_nil];omega) h0 h1 hb
  have kO:okG L a d (NA D C I B) a (LA b1 b2 b3 b4,ps L a d (YI b1 b2 b3 b4 (D.map Dt.cells) (C.map Cl.cells) (I.map It.cells) (B.map Bd.cells))):=⟨Nat.le_refl _,_,_,_,_,i1,i2,i3,i4,rfl⟩;have kE:=fun(b:Nat) (d' e w:Int)=>(⟨b,d',b1,b2,b3,b4,D.map Dt.cells,C.map Cl.cells,I.map It.cells,B.map Bd.cells,rfl⟩:erG L e w (GD b1 b2 b3 b4,ps L b d' (YI b1 b2 b3 b4 (D.map Dt.cells) (C.map Cl.cells) (I.map It.cells) (B.map Bd.cells)++[iv e,iv w])))
  have kD:=fun(v:Dt) (b:Nat) (e w:Int)=>(⟨b,d,true,b2,b3,b4,D.map Dt.cells++[dtC v],C.map Cl.cells,I.map It.cells,B.map Bd.cells,rfl⟩:erG L e w (GD true b2 b3 b4,ps L b d (YI true b2 b3 b4 (D.map Dt.cells++[dtC v]) (C.map Cl.cells) (I.map It.cells) (B.map Bd.cells)++[iv e,iv w])))
  have kC:=fun(v:Cl) (b:Nat) (e w:Int)=>(⟨b,d,b1,true,b3,b4,D.map Dt.cells,C.map Cl.cells++[clC v],I.map It.cells,B.map Bd.cells,rfl⟩:erG L e w (GD b1 true b3 b4,ps L b d (YI b1 true b3 b4 (D.map Dt.cells) (C.map Cl.cells++[clC v]) (I.map It.cells) (B.map Bd.cells)++[iv e,iv w])))
  have kI:=fun(v:It) (b:Nat) (e w:Int)=>(⟨b,d,b1,b2,true,b4,D.map Dt.cells,C.map Cl.cells,I.map It.cells++[itC v],B.map Bd.cells,rfl⟩:erG L e w (GD b1 b2 true b4,ps L b d (YI b1 b2 true b4 (D.map Dt.cells) (C.map Cl.cells) (I.map It.cells++[itC v]) (B.map Bd.cells)++[iv e,iv w])))
  have kB:=fun(v:Bd) (b:Nat) (e w:Int)=>(⟨b,d,b1,b2,b3,true,D.map Dt.cells,C.map Cl.cells,I.map It.cells,B.map Bd.cells++[tX v],rfl⟩:erG L e w (GD b1 b2 b3 true,ps L b d (YI b1 b2 b3 true (D.map Dt.cells) (C.map Cl.cells) (I.map It.cells) (B.map Bd.cells++[tX v])++[iv e,iv w])))
  have aD:=fun(v:Dt) k'=>bD (P:=PG) (d:=.fail) (k:=k') avr (acN D) (c:=dtC v) rfl (by simp) (by simp;omega) (by decide)
  have aC:=fun(v:Cl) k'=>bD (P:=PG) (d:=.fail) (k:=k') avs (acO C) (c:=clC v) rfl (by simp) (by simp;omega) (by decide)
  have aI:=fun(v:It) k'=>bD (P:=PG) (d:=.fail) (k:=k') avq (acM I) (c:=itC v) rfl (by simp) (by simp;omega) (by decide)
  have aB:=fun(v:Bd) k'=>bD (P:=PG) (d:=.fail) (k:=k') Qc (vL B) (c:=tX v) rfl (by simp) (by simp;omega) (by decide)
  refine .of ?_;cases b1<;>cases b2<;>cases b3<;>cases b4
  all_goals
   (first|(obtain rfl:=i1 rfl)|skip)
   (first|(obtain rfl:=i2 rfl)|skip)
   (first|(obtain rfl:=i3 rfl)|skip)
   (first|(obtain rfl:=i4 rfl)|skip)
   simp only[Ig,List.map_append,List.map_cons,List.map_nil,List.nil_append,Dt.cells,Cl.cells,It.cells,Bd.cells_eq,YI,vg,vk,ps,List.cons_append] at jD jC jI jB kO kE kD kC kI kB aD aC aI aB;rw[dX.eq_2]
   (first
    |rw[Ig,aeR]
    |rw[Ig,aeN]
    |rw[Ig,aeO]
    |rw[Ig,aeH]
    |rw[Ig,aeP]
    |rw[Ig,aeI]
    |rw[Ig,aeJ]
    |rw[Ig,aeD]
    |rw[Ig,aeQ]
    |rw[Ig,aeK]
    |rw[Ig,aeL]
    |rw[Ig,aeE]
    |rw[Ig,aeM]
    |rw[Ig,aeF]
    |rw[Ig,aeG]
    |rw[Ig,aeC]
    )
   refine .kind (fun k0=>?_) (fun k0=>?_)
   ·exact .pure ha (by simp[-Int.natCast_add,eH ha,Tk.cells,k0]) kO
   ·simp[-Int.natCast_add,eH ha,Tk.cells,eq_false k0]
    simp[-Int.natCast_add,dB hW ha];refine .may (fun hd=>?_) (fun hd=>?_)
    ·have hl1:=aF hW hd
     simp[-Int.natCast_add,hd];refine .callW (ai2 hW m (a+1) d h0 h1 hl1) (fun v b hb hab g=>?_) (fun e w b d' g=>?_)
     ·simp[-Int.natCast_add,g]
      (first|simp only[aD v]|skip)
      refine .take (by decide) (fun hs=>?_) (fun hs=>?_)
      ·have hl2:=aF hW hs
       simp[-Int.natCast_add,aJ hW hb,hs,Tk.cells];have hn:=jD v (b+1) (by omega) hl2;revert hn;generalize dX L m _ d (b+1)=r;intro hn;cases r with
       |out=>trivial
       |err e w=>obtain⟨z,g1,hz⟩:=hn;exact⟨z,by obtain⟨_,_⟩:=z;simp[-Int.natCast_add,g1],hz⟩
       |ok v2 b2=>obtain⟨hb2,z,g1,h5,hz⟩:=hn;exact⟨hb2,z,by obtain⟨_,_⟩:=z;simp[-Int.natCast_add,g1],by omega,hz⟩
      ·exact⟨_,by simp[-Int.natCast_add,aJ hW hb,hs],kD v b _ _⟩
     ·exact⟨_,by simp[-Int.natCast_add,g],kE b d' _ _⟩
    ·simp[-Int.natCast_add,hd]
     simp[-Int.natCast_add,dB hW ha];refine .may (fun hd=>?_) (fun hd=>?_)
     ·have hl1:=aF hW hd
      simp[-Int.natCast_add,hd];refine .callW (acr hW m (a+1) d h0 h1 hl1) (fun v b hb hab g=>?_) (fun e w b d' g=>?_)
      ·simp[-Int.natCast_add,g]
       (first|simp only[aC v]|skip)
       refine .take (by decide) (fun hs=>?_) (fun hs=>?_)
       ·have hl2:=aF hW hs
        simp[-Int.natCast_add,aJ hW hb,hs,Tk.cells];have hn:=jC v (b+1) (by omega) hl2;revert hn;generalize dX L m _ d (b+1)=r;intro hn;cases r with
        |out=>trivial
        |err e w=>obtain⟨z,g1,hz⟩:=hn;exact⟨z,by obtain⟨_,_⟩:=z;simp[-Int.natCast_add,g1],hz⟩
        |ok v2 b2=>obtain⟨hb2,z,g1,h5,hz⟩:=hn;exact⟨hb2,z,by obtain⟨_,_⟩:=z;simp[-Int.natCast_add,g1],by omega,hz⟩
       ·exact⟨_,by simp[-Int.natCast_add,aJ hW hb,hs],kC v b _ _⟩
      ·exact⟨_,by simp[-Int.natCast_add,g],kE b d' _ _⟩
     ·simp[-Int.natCast_add,hd]
      simp[-Int.natCast_add,dB hW ha];refine .may (fun hd=>?_) (fun hd=>?_)
      ·have hl1:=aF hW hd
       simp[-Int.natCast_add,hd];refine .callW (ai0 hW m (a+1) d h0 h1 hl1) (fun v b hb hab g=>?_) (fun e w b d' g=>?_)
       ·simp[-Int.natCast_add,g]
        (first|simp only[aI v]|skip)
        refine .take (by decide) (fun hs=>?_) (fun hs=>?_)
        ·have hl2:=aF hW hs
         simp[-Int.natCast_add,aJ hW hb,hs,Tk.cells];have hn:=jI v (b+1) (by omega) hl2;revert hn;generalize dX L m _ d (b+1)=r;intro hn;cases r with
         |out=>trivial
         |err e w=>obtain⟨z,g1,hz⟩:=hn;exact⟨z,by obtain⟨_,_⟩:=z;simp[-Int.natCast_add,g1],hz⟩
         |ok v2 b2=>obtain⟨hb2,z,g1,h5,hz⟩:=hn;exact⟨hb2,z,by obtain⟨_,_⟩:=z;simp[-Int.natCast_add,g1],by omega,hz⟩
        ·exact⟨_,by simp[-Int.natCast_add,aJ hW hb,hs],kI v b _ _⟩
       ·exact⟨_,by simp[-Int.natCast_add,g],kE b d' _ _⟩
      ·simp[-Int.natCast_add,hd]
       refine .take (by decide) (fun hd=>?_) (fun hd=>?_)
       ·have hl1:=aF hW hd
        simp[-Int.natCast_add,aJ hW ha,hd,Tk.cells];refine .callW (acv hW m (a+1) d h0 h1 hl1) (fun v b hb hab g=>?_) (fun e w b d' g=>?_)
        ·simp[-Int.natCast_add,g]
         (first|simp only[aB v]|skip)
         refine .take (by decide) (fun hs=>?_) (fun hs=>?_)
         ·have hl2:=aF hW hs
          simp[-Int.natCast_add,aJ hW hb,hs,Tk.cells];have hn:=jB v (b+1) (by omega) hl2;revert hn;generalize dX L m _ d (b+1)=r;intro hn;cases r with
          |out=>trivial
          |err e w=>obtain⟨z,g1,hz⟩:=hn;exact⟨z,by obtain⟨_,_⟩:=z;simp[-Int.natCast_add,g1],hz⟩
          |ok v2 b2=>obtain⟨hb2,z,g1,h5,hz⟩:=hn;exact⟨hb2,z,by obtain⟨_,_⟩:=z;simp[-Int.natCast_add,g1],by omega,hz⟩
         ·exact⟨_,by simp[-Int.natCast_add,aJ hW hb,hs],kB v b _ _⟩
        ·exact⟨_,by simp[-Int.natCast_add,g],kE b d' _ _⟩
       ·exact⟨_,by simp[-Int.natCast_add,aJ hW ha,hd],kE a d _ _⟩
end
set_option maxRecDepth 10000
set_option maxHeartbeats 4000000
theorem gK{L:List Tk}{q qw:Q}{m:List Nat}{k b:Nat}{d:Int}{ys zs:List PV}(hw:body PG EE TT ev qw=weakM m (ev q))(h:ev q=some (k,ps L b d ys))(hk:nth 0 m k=0)(hy:fC ys=zs):ev qw=some (0,ps L b d zs):=aS.of (by
 rw[hw,h,iT,hk];simp[hy])
theorem abZ{L:List Tk}{q qw:Q}{m:List Nat}{k b:Nat}{d e w:Int}(hw:body PG EE TT ev qw=weakM m (ev q))(h:ev q=some (k,ps L b d [iv e,iv w]))(hk:nth 0 m k=1):ev qw=some (1,ps L b d [iv e,iv w]):=aS.of (by
 rw[hw,h,iT,hk])
abbrev pgC(v:Pg):List PV:=[.rows (v.datas.map Dt.cells),.rows (v.classes.map Cl.cells),.rows (v.insts.map It.cells),.rows (v.binds.map Bd.cells)]
theorem nQ(l:List Dt):kX (.rows (l.map Dt.cells))=.rows (l.map Dt.cells):=by
 have:kX (aZ l)=aZ l:=by simp
 rw[aZ] at this;exact this
theorem nT(l:List Cl):kX (.rows (l.map Cl.cells))=.rows (l.map Cl.cells):=by
 have:kX (cls l)=cls l:=by simp
 rw[cls] at this;exact this
theorem nP(l:List It):kX (.rows (l.map It.cells))=.rows (l.map It.cells):=by
 have:kX (its l)=its l:=by simp
 rw[its] at this;exact this
theorem Gg{α β:Type}{p:GM α}{k:α→GM β}{d:Int}{a b:Nat}{v:β}(h:ax p k d a=.ok v b):∃x c,k x d c=.ok v b:=by
 unfold ax at h;cases hp:p d a with
 |out=>rw[hp] at h;cases h
 |err e w=>rw[hp] at h;cases h
 |ok x c=>rw[hp] at h;exact⟨x,c,h⟩
theorem Ng(L:List Tk):∀(m:Nat) (p:Pg) (d:Int) (a b:Nat) (v:Pg),dX L m p d a=.ok v b→(ak L b).kind=0
 |0,p,d,a,b,v,h=>by rw[dX] at h;cases h
 |m+1,p,d,a,b,v,h=>by
  rw[dX] at h;unfold jH at h;split at h
  ·cases h;assumption
  ·have key:∀{α:Type} (q:GM α) (x:ByteArray) (f:α→Pg) (c:Nat),ax q (fun x'=>ax (aR L 7 x) fun _=>dX L m (f x')) d c=.ok v b→(ak L b).kind=0:=fun q x f c h=>by
    obtain⟨y,c1,h⟩:=Gg h;obtain⟨z,c2,h⟩:=Gg h;exact Ng L m _ d c2 b v h
   unfold dZ at h;split at h
   ·exact key _ _ _ _ h
   ·split at h
    ·exact key _ _ _ _ h
    ·split at h
     ·exact key _ _ _ _ h
     ·obtain⟨y,c1,h⟩:=Gg h
      exact key _ _ _ _ h
section
variable{L:List Tk}(hW:I6 L)
include hW
abbrev pPr(L:List Tk)(a:Nat)(d:Int):Q:=Tp (dA L) (iv a) (iv d)
theorem aiW(m a:Nat)(d:Int)(h0:0≤d)(h1:d≤300)(ha:a<L.length):pW L (pPr L a d) (dX L m (NA [] [] [] []) d a) (fun v b z=>z=(0,ps L b d (pgC v))) (Xd L 1):=by
 have hn:=acm hW m false false false false [] [] [] [] a d (fun _=>rfl) (fun _=>rfl) (fun _=>rfl) (fun _=>rfl) (by simp) h0 h1 ha;have hw:=aru ev (dA L) (iv a) (iv d);revert hn;generalize dX L m (NA [] [] [] []) d a=r;intro hn;cases r with
 |out=>trivial
 |err e w=>
  obtain⟨z,g,b,d',b1,b2,b3,b4,T,U,V,W,rfl⟩:=hn;simp only[Ig] at g;refine⟨_,abZ (k:=16) (b:=b) (d:=d') (e:=e) (w:=w) hw (aS.of ?_) rfl,b,d',rfl⟩;rw[uY];cases b1<;>cases b2<;>cases b3<;>cases b4
  all_goals
   simp only[YI,vg,vk,ps,List.cons_append,List.nil_append] at g;simp[g]
 |ok v b=>
  obtain⟨hb,z,g,hab,b1,b2,b3,b4,i1,i2,i3,i4,rfl⟩:=hn;simp only[Ig] at g;refine⟨hb,_,?_,rfl⟩;cases b1<;>cases b2<;>cases b3<;>cases b4
  all_goals
   simp only[YI,vg,vk,ps,List.cons_append,List.nil_append] at g
  ·exact gK (k:=0) (ys:=[nS,nS,nS,nS]) hw (aS.of (by rw[uY];simp[g])) rfl (by simp[nQ,nT,nP,gX,i1 rfl,i2 rfl,i3 rfl,i4 rfl])
  ·exact gK (k:=1) (ys:=[nS,nS,nS,.rows (v.binds.map Bd.cells)]) hw (aS.of (by rw[uY];simp[g])) rfl (by simp[nQ,nT,nP,gX,i1 rfl,i2 rfl,i3 rfl])
  ·exact gK (k:=2) (ys:=[nS,nS,.rows (v.insts.map It.cells),nS]) hw (aS.of (by rw[uY];simp[g])) rfl (by simp[nQ,nT,nP,gX,i1 rfl,i2 rfl,i4 rfl])
  ·exact gK (k:=3) (ys:=[nS,nS,.rows (v.insts.map It.cells),.rows (v.binds.map Bd.cells)]) hw (aS.of (by rw[uY];simp[g])) rfl (by simp[nQ,nT,nP,gX,i1 rfl,i2 rfl])
  ·exact gK (k:=4) (ys:=[nS,.rows (v.classes.map Cl.cells),nS,nS]) hw (aS.of (by rw[uY];simp[g])) rfl (by simp[nQ,nT,nP,gX,i1 rfl,i3 rfl,i4 rfl])
  ·exact gK (k:=5) (ys:=[nS,.rows (v.classes.map Cl.cells),nS,.rows (v.binds.map Bd.cells)]) hw (aS.of (by rw[uY];simp[g])) rfl (by simp[nQ,nT,nP,gX,i1 rfl,i3 rfl])
  ·exact gK (k:=6) (ys:=[nS,.rows (v.classes.map Cl.cells),.rows (v.insts.map It.cells),nS]) hw (aS.of (by rw[uY];simp[g])) rfl (by simp[nQ,nT,nP,gX,i1 rfl,i4 rfl])
  ·exact gK (k:=7) (ys:=[nS,.rows (v.classes.map Cl.cells),.rows (v.insts.map It.cells),.rows (v.binds.map Bd.cells)]) hw (aS.of (by rw[uY];simp[g])) rfl (by simp[nQ,nT,nP,gX,i1 rfl])
  ·exact gK (k:=8) (ys:=[.rows (v.datas.map Dt.cells),nS,nS,nS]) hw (aS.of (by rw[uY];simp[g])) rfl (by simp[nQ,nT,nP,gX,i2 rfl,i3 rfl,i4 rfl])
  ·exact gK (k:=9) (ys:=[.rows (v.datas.map Dt.cells),nS,nS,.rows (v.binds.map Bd.cells)]) hw (aS.of (by rw[uY];simp[g])) rfl (by simp[nQ,nT,nP,gX,i2 rfl,i3 rfl])
  ·exact gK (k:=10) (ys:=[.rows (v.datas.map Dt.cells),nS,.rows (v.insts.map It.cells),nS]) hw (aS.of (by rw[uY];simp[g])) rfl (by simp[nQ,nT,nP,gX,i2 rfl,i4 rfl])
  ·exact gK (k:=11) (ys:=[.rows (v.datas.map Dt.cells),nS,.rows (v.insts.map It.cells),.rows (v.binds.map Bd.cells)]) hw (aS.of (by rw[uY];simp[g])) rfl (by simp[nQ,nT,nP,gX,i2 rfl])
  ·exact gK (k:=12) (ys:=[.rows (v.datas.map Dt.cells),.rows (v.classes.map Cl.cells),nS,nS]) hw (aS.of (by rw[uY];simp[g])) rfl (by simp[nQ,nT,nP,gX,i3 rfl,i4 rfl])
  ·exact gK (k:=13) (ys:=[.rows (v.datas.map Dt.cells),.rows (v.classes.map Cl.cells),nS,.rows (v.binds.map Bd.cells)]) hw (aS.of (by rw[uY];simp[g])) rfl (by simp[nQ,nT,nP,gX,i3 rfl])
  ·exact gK (k:=14) (ys:=[.rows (v.datas.map Dt.cells),.rows (v.classes.map Cl.cells),.rows (v.insts.map It.cells),nS]) hw (aS.of (by rw[uY];simp[g])) rfl (by simp[nQ,nT,nP,gX,i4 rfl])
  ·exact gK (k:=15) (ys:=[.rows (v.datas.map Dt.cells),.rows (v.classes.map Cl.cells),.rows (v.insts.map It.cells),.rows (v.binds.map Bd.cells)]) hw (aS.of (by rw[uY];simp[g])) rfl (by simp[nQ,nT,nP,gX])
end
set_option maxRecDepth 10000
def PPr(b:ByteArray)(r:Rz Pg):Prop:=match r with
 |.out=>True
 |.ok v _=>ev (q6 (sv b))=some (0,pgC v++[iv 0,iv 0])
 |.err e w=>ev (q6 (sv b))=some (0,[nS,nS,nS,nS,iv e,iv w])
theorem acW(b:ByteArray)(hb:b.size≤1000000):match rq b with
  |.error (c,p)=>PPr b (.err c p)
  |.ok L=>∀m,PPr b (dX L m ⟨⟨[],[],[]⟩,[]⟩ 0 0):=by
 have hs:=aiT b hb;cases ht:rq b with
 |error p=>
  obtain⟨c,p⟩:=p;rw[ht] at hs;have hc:=HY ht;have hw:ev (acQ (sv b))=some (0,[nS,nS,nS,nS,iv c,iv (p:Nat)]):=aS.of (by rw[akE];simp[hs,hc]);exact aS.of (by rw[h6];simp[hw])
 |ok L=>
  rw[ht] at hs;obtain⟨hz,hl,hW⟩:=D7 ht;intro m;have hn:=aiW hW m 0 0 (by decide) (by decide) hW.pos;have he:∀v b',dX L m (NA [] [] [] []) 0 0=.ok v b'→_:=fun v b'=>Ng L m _ 0 0 b' v
  revert hn he;show pW L (pPr L 0 0) (dX L m (NA [] [] [] []) 0 0) _ _→_→PPr b (dX L m (NA [] [] [] []) 0 0);generalize dX L m (NA [] [] [] []) 0 0=r;intro hn he;cases r with
  |out=>trivial
  |err e w=>
   obtain⟨z,g,b',d',rfl⟩:=hn;have g:ev (Tp (dA L) (iv 0) (iv 0))=_:=g;have hw:ev (acQ (sv b))=some (0,[nS,nS,nS,nS,iv e,iv w]):=aS.of (by rw[akE];simp[hs,g]);exact aS.of (by rw[h6];simp[hw])
  |ok v b'=>
   obtain⟨hb',z,g,rfl⟩:=hn;have g:ev (Tp (dA L) (iv 0) (iv 0))=_:=g;have hk:=bY hW hb' 0 (iv 0);rw[if_pos (he v b' rfl)] at hk;have hw:ev (acQ (sv b))=some (0,pgC v++[iv 0,iv 0]):=aS.of (by rw[akE];simp[-Int.natCast_add,hs,g,hk,Tk.cells]);exact aS.of (by rw[h6];simp[hw])
set_option linter.all false
def Gp(N:Nat)(c:Nat){α:Type}(g:GM α):Prop:=∀d a v b,g d a=.ok v b→a+c≤b∧b≤max a N
def Nt(N:Nat)(r:Nat){α:Type}(g:GM α):Prop:=∀d a,N-a≤r→g d a≠.out
section
variable{α β:Type}{N c r:Nat}
theorem Gp.le{g:GM α}(h:Gp N 1 g):Gp N 0 g:=fun d a v b e=>by have:=h d a v b e;omega
theorem Gp.pure(v:α):Gp N 0 (aT v):=fun d a w b e=>by cases e;omega
theorem Gp.bind0{p:GM β}{k:β→GM α}(hp:Gp N 0 p)(hk:∀x,Gp N 0 (k x)):Gp N 0 (ax p k):=fun d a v b e=>by
 unfold ax at e;cases hr:p d a with
 |out=>rw[hr] at e;cases e
 |err x y=>rw[hr] at e;cases e
 |ok x m=>rw[hr] at e;have h1:=hp d a x m hr;have h2:=hk x d m v b e;omega
theorem Gp.bind1{p:GM β}{k:β→GM α}(hp:Gp N 1 p)(hk:∀x,Gp N 0 (k x)):Gp N 1 (ax p k):=fun d a v b e=>by
 unfold ax at e;cases hr:p d a with
 |out=>rw[hr] at e;cases e
 |err x y=>rw[hr] at e;cases e
 |ok x m=>rw[hr] at e;have h1:=hp d a x m hr;have h2:=hk x d m v b e;omega
theorem Gp.if'{C:Prop}[Decidable C]{A B:GM α}(h1:Gp N c A)(h2:Gp N c B):Gp N c (if C then A else B):=by split<;>assumption
theorem Nt.pure(v:α):Nt N r (aT v):=fun d a _ e=>by cases e
theorem Nt.bind0{p:GM β}{k:β→GM α}(hp:Nt N r p)(hg:Gp N 0 p)(hk:∀x,Nt N r (k x)):Nt N r (ax p k):=fun d a ha e=>by
 unfold ax at e;cases hr:p d a with
 |out=>exact hp d a ha hr
 |err x y=>rw[hr] at e;cases e
 |ok x m=>rw[hr] at e;have h1:=hg d a x m hr;exact hk x d m (by omega) e
theorem Nt.bind1{p:GM β}{k:β→GM α}(hp:Nt N r p)(hg:Gp N 1 p)(hk:∀r',r=r'+1→∀x,Nt N r' (k x)):Nt N r (ax p k):=fun d a ha e=>by
 unfold ax at e;cases hr:p d a with
 |out=>exact hp d a ha hr
 |err x y=>rw[hr] at e;cases e
 |ok x m=>rw[hr] at e;have h1:=hg d a x m hr;exact hk (r-1) (by omega) x d m (by omega) e
theorem Nt.if'{C:Prop}[Decidable C]{A B:GM α}(h1:Nt N r A)(h2:Nt N r B):Nt N r (if C then A else B):=by split<;>assumption
end
section
variable{L:List Tk}{α:Type}{c r:Nat}
theorem Hr{a:Nat}(h:(ak L a).kind≠0):a<L.length:=by
 apply Decidable.byContradiction;intro hn;apply h;unfold ak;rw[List.getElem?_eq_none (by omega)];rfl
theorem FE{a:Nat}{x:ByteArray}(h:nJ L x a=true):a<L.length:=Hr fun h0=>by
 unfold nJ at h;rw[h0] at h;simp at h
theorem Gp.take{k:Int}(hk:k≠0)(x:ByteArray):Gp L.length 1 (aR L k x):=fun d a v b e=>by
 unfold aR at e;split at e
 ·rename_i h
  cases e;have:a<L.length:=by
   unfold okT at h;split at h
   ·exact Hr (by simp at h;rw[h];exact hk)
   ·exact FE h
  omega
 ·cases e
theorem Gp.up{g:GM α}(h:Gp L.length 0 g):∀d a v b,a<L.length→Cz g d a=.ok v b→a+1≤b∧b≤max a L.length:=fun d a v b ha e=>by
 have:=h d (a+1) v b e;omega
theorem Gp.may{x:ByteArray}{A B:GM α}(h1:Gp L.length 0 A)(h2:Gp L.length c B)(hc:c≤1):Gp L.length c (dZ L x A B):=fun d a v b e=>by
 unfold dZ at e;split at e
 ·rename_i h
  have:=FE h;have:=h1 d (a+1) v b e;omega
 ·exact h2 d a v b e
theorem Gp.kind{k:Int}{A B:GM α}(h1:Gp L.length c A)(h2:Gp L.length c B):Gp L.length c (jH L k A B):=fun d a v b e=>by
 unfold jH at e;split at e
 ·exact h1 d a v b e
 ·exact h2 d a v b e
theorem Gp.kindU{k:Int}(hk:k≠0){f:Tk→GM α}{B:GM α}(h1:∀t,Gp L.length 0 (f t))(h2:Gp L.length c B)(hc:c≤1):Gp L.length c (jH L k (kR L fun t=>Cz (f t)) B):=fun d a v b e=>by
 unfold jH at e;split at e
 ·rename_i h
  have:=Hr (L:=L) (a:=a) (by rw[h];exact hk);have:=Gp.up (h1 _) d a v b this e;omega
 ·exact h2 d a v b e
theorem Gp.st{w:Int}{A B:GM α}(h1:Gp L.length c A)(h2:Gp L.length c B):Gp L.length c (VE L w A B):=fun d a v b e=>by
 unfold VE at e;split at e
 ·exact h1 d a v b e
 ·exact h2 d a v b e
theorem Gp.next{f:Tk→GM α}(h:∀t,Gp L.length c (f t)):Gp L.length c (kR L f):=fun d a v b e=>h _ d a v b e
theorem Gp.deep{A:GM α}(h:Gp L.length c A):Gp L.length c (rP L A):=fun d a v b e=>by
 unfold rP at e;split at e
 ·cases e
 ·exact h _ a v b e
theorem Nt.take(k:Int)(x:ByteArray):Nt L.length r (aR L k x):=fun d a _ e=>by
 unfold aR at e;split at e<;>cases e
theorem Nt.may{x:ByteArray}{A B:GM α}(h1:∀r',r=r'+1→Nt L.length r' A)(h2:Nt L.length r B):Nt L.length r (dZ L x A B):=fun d a ha e=>by
 unfold dZ at e;split at e
 ·rename_i h
  have:=FE h;exact h1 (r-1) (by omega) d (a+1) (by omega) e
 ·exact h2 d a ha e
theorem Nt.kind{k:Int}{A B:GM α}(h1:Nt L.length r A)(h2:Nt L.length r B):Nt L.length r (jH L k A B):=fun d a ha e=>by
 unfold jH at e;split at e
 ·exact h1 d a ha e
 ·exact h2 d a ha e
theorem Nt.kindU{k:Int}(hk:k≠0){f:Tk→GM α}{B:GM α}(h1:∀r',r=r'+1→∀t,Nt L.length r' (f t))(h2:Nt L.length r B):Nt L.length r (jH L k (kR L fun t=>Cz (f t)) B):=fun d a ha e=>by
 unfold jH at e;split at e
 ·rename_i h
  have:=Hr (L:=L) (a:=a) (by rw[h];exact hk);exact h1 (r-1) (by omega) _ d (a+1) (by omega) e
 ·exact h2 d a ha e
theorem Nt.st{w:Int}{A B:GM α}(h1:Nt L.length r A)(h2:Nt L.length r B):Nt L.length r (VE L w A B):=fun d a ha e=>by
 unfold VE at e;split at e
 ·exact h1 d a ha e
 ·exact h2 d a ha e
theorem Nt.next{f:Tk→GM α}(h:∀t,Nt L.length r (f t)):Nt L.length r (kR L f):=fun d a ha e=>h _ d a ha e
theorem Nt.deep{A:GM α}(h:Nt L.length r A):Nt L.length r (rP L A):=fun d a ha e=>by
 unfold rP at e;split at e
 ·cases e
 ·exact h _ a ha e
def GpT(L:List Tk)(c:Nat){α:Type}(f:Tk→GM α):Prop:=∀d a v b,f (ak L a) d a=.ok v b→a+c≤b∧b≤max a L.length
def NtT(L:List Tk)(r:Nat){α:Type}(f:Tk→GM α):Prop:=∀d a,L.length-a≤r→f (ak L a) d a≠.out
theorem Gp.nextT{f:Tk→GM α}(h:GpT L c f):Gp L.length c (kR L f):=h
theorem GpT.of{f:Tk→GM α}(h:∀t,Gp L.length c (f t)):GpT L c f:=fun d a v b e=>h _ d a v b e
theorem GpT.if'{k:Int}(hk:k≠0){q B:Tk→GM α}(h1:∀t,Gp L.length 0 (q t))(h2:GpT L c B)(hc:c≤1):GpT L c fun t=>if t.kind=k then Cz (q t) else B t:=fun d a v b e=>by
 simp only at e;split at e
 ·rename_i h
  have:=Hr (L:=L) (a:=a) (by rw[h];exact hk);have:=Gp.up (h1 _) d a v b this e;omega
 ·exact h2 d a v b e
theorem GpT.bind1{β:Type}{p:Tk→GM β}{k:Tk→β→GM α}(hp:GpT L 1 p)(hk:∀t x,Gp L.length 0 (k t x)):GpT L 1 fun t=>ax (p t) (k t):=fun d a v b e=>by
 have e:ax (p (ak L a)) (k (ak L a)) d a=.ok v b:=e;unfold ax at e;cases hr:p (ak L a) d a with
 |out=>rw[hr] at e;cases e
 |err x y=>rw[hr] at e;cases e
 |ok x m=>rw[hr] at e;have h1:=hp d a x m hr;have h2:=hk _ x d m v b e;omega
theorem Nt.nextT{f:Tk→GM α}(h:NtT L r f):Nt L.length r (kR L f):=h
theorem NtT.of{f:Tk→GM α}(h:∀t,Nt L.length r (f t)):NtT L r f:=fun d a ha e=>h _ d a ha e
theorem NtT.if'{k:Int}(hk:k≠0){q B:Tk→GM α}(h1:∀r',r=r'+1→∀t,Nt L.length r' (q t))(h2:NtT L r B):NtT L r fun t=>if t.kind=k then Cz (q t) else B t:=fun d a ha e=>by
 simp only at e;split at e
 ·rename_i h
  have:=Hr (L:=L) (a:=a) (by rw[h];exact hk);exact h1 (r-1) (by omega) _ d (a+1) (by omega) e
 ·exact h2 d a ha e
theorem NtT.bind1{β:Type}{p:Tk→GM β}{k:Tk→β→GM α}(hp:NtT L r p)(hg:GpT L 1 p)(hk:∀r',r=r'+1→∀t x,Nt L.length r' (k t x)):NtT L r fun t=>ax (p t) (k t):=fun d a ha e=>by
 have e:ax (p (ak L a)) (k (ak L a)) d a=.out:=e;unfold ax at e;cases hr:p (ak L a) d a with
 |out=>exact hp d a ha hr
 |err x y=>rw[hr] at e;cases e
 |ok x m=>rw[hr] at e;have h1:=hg d a x m hr;exact hk (r-1) (by omega) _ x d m (by omega) e
theorem Gp.clash(l:List Ex)(o:List Tk):Gp L.length 0 (vz l o):=fun d a v b e=>by
 unfold vz at e;cases h:nN (PD o) o.length o.length 0 with
 |some k=>rw[h] at e;cases e
 |none=>rw[h] at e;exact Gp.pure _ d a v b e
theorem Nt.clash(l:List Ex)(o:List Tk):Nt L.length r (vz l o):=fun d a _ e=>by
 unfold vz at e;cases h:nN (PD o) o.length o.length 0 with
 |some k=>rw[h] at e;cases e
 |none=>rw[h] at e;cases e
end
set_option linter.all false
section
variable{L:List Tk}
theorem iN{α:Type}{N c:Nat}{g:GM α}(h:∀d a,g d a=.out):Gp N c g:=fun d a v b e=>by rw[h] at e;cases e
theorem wP:∀m,Gp L.length 1 (jy L m)∧Gp L.length 1 (gG L m)∧∀l,Gp L.length 0 (dI L m l)
 |0=>⟨iN fun d a=>by rw[jy],iN fun d a=>by rw[gG],fun l=>iN fun d a=>by unfold dI;rw[wU]⟩
 |m+1=>by
  obtain⟨h1,h2,h3⟩:=wP m;refine⟨?_,?_,fun l=>?_⟩
  ·rw[CB]
   refine .deep (.nextT (.bind1 (.if' (by decide) (fun t=>.bind0 (h3 _) fun l=>.pure _) (.of fun t=>h2) (by decide)) fun t x=>?_));exact .may (.le (.bind1 h1 fun y=>.pure _)) (.pure _) (by decide)
  ·rw[zP]
   refine .nextT (.if' (by decide) (fun t=>.pure _) (.if' (by decide) (fun t=>.pure _) (.of fun t=>?_) (by decide)) (by decide));exact .bind1 (.take (by decide) _) fun _=>.may (.pure _) (.le (.bind1 h1 fun x=>.bind0 (.le (.take (by decide) _)) fun _=>.pure _)) (by decide)
  ·rw[tu]
   exact .st (.le (.bind1 h2 fun x=>h3 _)) (.pure _)
theorem KC:∀m,Gp L.length 1 (nI L m)∧Gp L.length 1 (uL L m)∧∀l,Gp L.length 0 (kQ L m l)
 |0=>⟨iN fun d a=>by rw[nI];rfl,iN fun d a=>by rw[uL];rfl,fun l=>iN fun d a=>by rw[kQ];rfl⟩
 |m+1=>by
  obtain⟨h1,h2,h3⟩:=KC m;refine⟨?_,?_,fun l=>?_⟩
  ·rw[nI]
   refine .nextT (.if' (by decide) (fun t=>.pure _) (.if' (by decide) (fun t=>.pure _) (.if' (by decide) (fun t=>.pure _) (.of fun t=>?_) (by decide)) (by decide)) (by decide));intro d a v b e;unfold dZ at e;split at e
   ·rename_i h
    have:=FE h;cases e;omega
   ·exact(Gp.bind1 (Gp.take (by decide) _) fun _=>.may (.pure _) (.le (.bind1 h2 fun x=>.bind0 (.le (.take (by decide) _)) fun _=>.pure _)) (by decide):Gp L.length 1 (ax (aR L 7 Qg) fun _=>dZ L H7 (aT (.mk 3 sUn 0 [] t.at_)) (ax (uL L m) fun x=>ax (aR L 7 H7) fun _=>aT x))) d a v b e
  ·rw[uL]
   exact .deep (.next fun t=>.bind1 h1 fun x=>.if' (.bind0 (h3 _) fun l=>.pure _) (.pure _))
  ·rw[kQ]
   exact .st (.le (.bind1 h1 fun x=>h3 _)) (.pure _)
theorem Dm:Gp L.length 1 (yX L):=by
 unfold yX;intro d a v b e;unfold dZ at e;split at e
 ·rename_i h
  have h0:=FE h;have:=(Gp.bind1 (Gp.take (by decide) _) fun t=>.bind0 (.le (.take (by decide) _)) fun _=>.pure t:Gp L.length 1 (ax (aR L 5 eB) fun t=>ax (aR L 7 H7) fun _=>aT t)) d (a+1) v b e;omega
 ·exact Gp.take (by decide) _ d a v b e
structure GpE(L:List Tk)(m:Nat):Prop where
 ex:Gp L.length 1 (iI L m)
 ops:∀l o,Gp L.length 0 (uf L m l o)
 opd:Gp L.length 1 (eT L m)
 app:∀w x,Gp L.length 0 (lQ L m w x)
 lam:∀w,Gp L.length 1 (iL L m w)
 lams:∀l,Gp L.length 1 (jG L m l)
 lt:∀k w,Gp L.length 1 (rG L m k w)
 bd:Gp L.length 1 (Gi L m)
 ands:∀l,Gp L.length 0 (gY L m l)
 atom:Gp L.length 1 (nG L m)
 alts:∀l,Gp L.length 1 (lS L m l)
theorem Gp.may1{α:Type}{x:ByteArray}{A B:GM α}(h1:Gp L.length 0 A)(h2:Gp L.length 1 B):Gp L.length 1 (dZ L x A B):=.may h1 h2 (by decide)
theorem Oy:∀m,GpE L m
 |0=>⟨iN fun d a=>by rw[iI];rfl,fun l o=>iN fun d a=>by rw[uf];rfl,iN fun d a=>by rw[eT];rfl,fun w x=>iN fun d a=>by rw[lQ];rfl,fun w=>iN fun d a=>by rw[iL];rfl,fun l=>iN fun d a=>by rw[jG];rfl,fun k w=>iN fun d a=>by rw[rG];rfl,iN fun d a=>by rw[Gi];rfl,fun l=>iN fun d a=>by rw[gY];rfl,iN fun d a=>by rw[nG];rfl,fun l=>iN fun d a=>by rw[lS];rfl⟩
 |m+1=>by
  have H:=Oy m;have T:=(wP (L:=L) m).1;have P:=(KC (L:=L) m).2.1;have tk:∀{k:Int} (x:ByteArray),k≠0→Gp L.length 1 (aR L k x):=fun x hk=>.take hk x
  refine⟨?_,fun l o=>?_,?_,fun w x=>?_,fun w=>?_,fun l=>?_,fun k w=>?_,?_,fun l=>?_,?_,fun l=>?_⟩
  ·rw[iI];exact .deep (.bind1 H.opd fun x=>.bind0 (H.ops _ _) fun r=>.clash _ _)
  ·rw[uf];exact .kind (.le (.bind1 (tk _ (by decide)) fun t=>.le (.bind1 H.opd fun x=>H.ops _ _))) (.pure _)
  ·rw[eT]
   refine .next fun t=>.may1 (H.lam _).le (.may1 (.may (H.lt _ _).le (H.lt _ _).le (by decide)) (.may1 (.le ?_) (.bind1 H.atom fun x=>H.app _ _)))
   exact .bind1 H.ex fun a=>.le (.bind1 (tk _ (by decide)) fun _=>.le (.bind1 H.ex fun b=>.le (.bind1 (tk _ (by decide)) fun _=>.le (.bind1 H.ex fun c=>.pure _))))
  ·rw[lQ];exact .st (.le (.bind1 H.atom fun y=>H.app _ _)) (.pure _)
  ·rw[iL];exact .bind1 (tk _ (by decide)) fun t=>(H.lams _).le
  ·rw[jG];exact .kindU (by decide) (fun t=>(H.lams _).le) (.bind1 (tk _ (by decide)) fun _=>.le (.bind1 H.ex fun e=>.pure _)) (by decide)
  ·rw[rG];exact .bind1 H.bd fun b=>.bind0 (H.ands _) fun l=>.le (.bind1 (tk _ (by decide)) fun _=>.le (.bind1 H.ex fun e=>.pure _))
  ·rw[Gi];exact .bind1 Dm fun t=>.le (.bind1 (tk _ (by decide)) fun _=>.le (.bind1 H.ex fun e=>.pure _))
  ·rw[gY];exact .may (.le (.bind1 H.bd fun b=>H.ands _)) (.pure _) (by decide)
  ·rw[nG]
   refine .nextT (.if' (by decide) (fun t=>.pure _) (.if' (by decide) (fun t=>.pure _) (.if' (by decide) (fun t=>.pure _) (.if' (by decide) (fun t=>.pure _) (.of fun t=>?_) (by decide)) (by decide)) (by decide)) (by decide));refine .may1 (.le (.bind1 H.ex fun x=>.le (.bind1 (tk _ (by decide)) fun _=>.le (.bind1 (H.alts _) fun l=>.le (.bind1 (tk _ (by decide)) fun _=>.pure _))))) (.bind1 (tk _ (by decide)) fun _=>.may (.pure _) (.kind (.le (.bind1 (tk _ (by decide)) fun o=>.le (.bind1 (tk _ (by decide)) fun _=>.pure _))) (.le (.bind1 H.ex fun y=>?_))) (by decide));exact .may (.le (.bind1 T fun ty=>.le (.bind1 (tk _ (by decide)) fun _=>.pure _))) (.le (.bind1 (tk _ (by decide)) fun _=>.pure _)) (by decide)
  ·rw[lS];exact .bind1 P fun p=>.le (.bind1 (tk _ (by decide)) fun _=>.le (.bind1 H.ex fun e=>.may (H.alts _).le (.pure _) (by decide)))
theorem aaj:∀m l,Gp L.length 0 (rT L m l)
 |0,l=>iN fun d a=>by rw[rT];rfl
 |m+1,l=>by rw[rT];exact .may (.le (.bind1 (.take (by decide) _) fun t=>aaj m _)) (.pure _) (by decide)
theorem Az(m:Nat):Gp L.length 1 (kZ L m):=.bind1 (.take (by decide) _) fun t=>aaj m _
theorem KD:∀m l,Gp L.length 0 (lY L m l)
 |0,l=>iN fun d a=>by rw[lY];rfl
 |m+1,l=>by rw[lY];exact .kind (.le (.bind1 (.take (by decide) _) fun t=>KD m _)) (.pure _)
theorem KF:∀m l,Gp L.length 1 (kU L m l)
 |0,l=>iN fun d a=>by rw[kU];rfl
 |m+1,l=>by rw[kU];exact .bind1 (.take (by decide) _) fun c=>.bind0 ((wP m).2.2 _) fun tl=>.may (KF m _).le (.pure _) (by decide)
theorem UL(m:Nat):Gp L.length 1 (F7 L m):=
 .bind1 (.take (by decide) _) fun t=>.bind0 (KD m _) fun ps=>.le (.bind1 (.take (by decide) _) fun _=>.le (.bind1 (KF m _) fun cs=>
  .may (.le (.bind1 (.take (by decide) _) fun _=>.le (.bind1 (Az m) fun ds=>.le (.bind1 (.take (by decide) _) fun _=>.pure _)))) (.pure _) (by decide)))
theorem zw:∀m ms ds,Gp L.length 0 (gQ L m ms ds)
 |0,ms,ds=>iN fun d a=>by rw[gQ];rfl
 |m+1,ms,ds=>by
  rw[gQ];exact .may (.pure _) (.may (.le (.bind1 (Oy m).bd fun b=>.le (.bind1 (.take (by decide) _) fun _=>zw m _ _)))
   (.le (.bind1 Dm fun n=>.le (.bind1 (.take (by decide) _) fun _=>.le (.bind1 (wP m).1 fun ty=>.le (.bind1 (.take (by decide) _) fun _=>zw m _ _))))) (by decide)) (by decide)
theorem UK(m:Nat):Gp L.length 0 (OA L m):=.may (Az m).le (.pure _) (by decide)
theorem Oz(m:Nat):Gp L.length 1 (xX L m):=
 .bind1 (.take (by decide) _) fun t=>.le (.bind1 (.take (by decide) _) fun v=>.bind0 (UK m) fun sup=>.le (.bind1 (.take (by decide) _) fun _=>.bind0 (zw m _ _) fun r=>.pure _))
theorem QL:∀m l,Gp L.length 1 (qN L m l)
 |0,l=>iN fun d a=>by rw[qN];rfl
 |m+1,l=>by rw[qN];exact .bind1 (.take (by decide) _) fun c=>.le (.bind1 (.take (by decide) _) fun v=>.may (QL m _).le (.pure _) (by decide))
theorem KE:∀m l,Gp L.length 0 (jJ L m l)
 |0,l=>iN fun d a=>by rw[jJ];rfl
 |m+1,l=>by rw[jJ];exact .may (.pure _) (.le (.bind1 (.take (by decide) _) fun _=>.le (.bind1 (Oy m).bd fun b=>.le (.bind1 (.take (by decide) _) fun _=>KE m _)))) (by decide)
theorem UJ(m:Nat):Gp L.length 1 (nV L m):=
 .bind1 (.take (by decide) _) fun t=>.le (.bind1 (wP m).2.1 fun h=>.bind0 (.may (QL m _).le (.pure _) (by decide)) fun c=>.le (.bind1 (.take (by decide) _) fun _=>.bind0 (KE m _) fun bs=>.pure _))
end
set_option linter.all false
section
variable{L:List Tk}
theorem Nt.b1{α β:Type}{r:Nat}{p:GM β}{k:β→GM α}(hp:Nt L.length r p)(hg:Gp L.length 1 p)(hk:∀r',r=r'+1→∀x,Nt L.length r' (k x)):Nt L.length r (ax p k):=.bind1 hp hg hk
theorem Nt.tk{α:Type}{r:Nat}{k:Int}{x:ByteArray}{f:Tk→GM α}(hk0:k≠0)(hk:∀r',r=r'+1→∀t,Nt L.length r' (f t)):Nt L.length r (ax (aR L k x) f):=.bind1 (.take _ _) (.take hk0 _) hk
theorem Nw:∀m,(∀r,8*r+3≤m→Nt L.length r (jy L m))∧(∀r,8*r+2≤m→Nt L.length r (gG L m))∧∀l r,8*r+3≤m→Nt L.length r (dI L m l)
 |0=>⟨fun r h=>by omega,fun r h=>by omega,fun l r h=>by omega⟩
 |m+1=>by
  obtain⟨h1,h2,h3⟩:=Nw m;obtain⟨g1,g2,g3⟩:=wP (L:=L) m;refine⟨fun r h=>?_,fun r h=>?_,fun l r h=>?_⟩
  ·rw[CB]
   refine .deep (.nextT (.bind1 (.if' (by decide) (fun r' e t=>.bind0 (h3 _ _ (by omega)) (g3 _) fun l=>.pure _) (.of fun t=>h2 _ (by omega))) (.if' (by decide) (fun t=>.bind0 (g3 _) fun l=>.pure _) (.of fun t=>g2) (by decide)) fun r' e t x=>?_));exact .may (fun r2 e2=>.bind0 (h1 _ (by omega)) g1.le fun y=>.pure _) (.pure _)
  ·rw[zP]
   refine .nextT (.if' (by decide) (fun r' e t=>.pure _) (.if' (by decide) (fun r' e t=>.pure _) (.of fun t=>?_)));exact .tk (by decide) fun r' e _=>.may (fun _ _=>.pure _) (.bind0 (h1 _ (by omega)) g1.le fun x=>.tk (by decide) fun _ _ _=>.pure _)
  ·rw[tu]
   exact .st (.b1 (h2 _ (by omega)) g2 fun r' e x=>h3 _ _ (by omega)) (.pure _)
theorem YV:∀m,(∀r,8*r+2≤m→Nt L.length r (nI L m))∧(∀r,8*r+3≤m→Nt L.length r (uL L m))∧∀l r,8*r+3≤m→Nt L.length r (kQ L m l)
 |0=>⟨fun r h=>by omega,fun r h=>by omega,fun l r h=>by omega⟩
 |m+1=>by
  obtain⟨h1,h2,h3⟩:=YV m;obtain⟨g1,g2,g3⟩:=KC (L:=L) m;refine⟨fun r h=>?_,fun r h=>?_,fun l r h=>?_⟩
  ·rw[nI]
   refine .nextT (.if' (by decide) (fun _ _ t=>.pure _) (.if' (by decide) (fun _ _ t=>.pure _) (.if' (by decide) (fun _ _ t=>.pure _) (.of fun t=>?_))));exact .may (fun _ _=>.pure _) (.tk (by decide) fun r' e _=>.may (fun _ _=>.pure _) (.bind0 (h2 _ (by omega)) g2.le fun x=>.tk (by decide) fun _ _ _=>.pure _))
  ·rw[uL]
   exact .deep (.next fun t=>.b1 (h1 _ (by omega)) g1 fun r' e x=>.if' (.bind0 (h3 _ _ (by omega)) (g3 _) fun l=>.pure _) (.pure _))
  ·rw[kQ]
   exact .st (.b1 (h1 _ (by omega)) g1 fun r' e x=>h3 _ _ (by omega)) (.pure _)
theorem Ue(r:Nat):Nt L.length r (yX L):=.may (fun _ _=>.tk (by decide) fun _ _ t=>.tk (by decide) fun _ _ _=>.pure _) (.take _ _)
structure NtE(L:List Tk)(m:Nat):Prop where
 ex:∀r,8*r+5≤m→Nt L.length r (iI L m)
 ops:∀l o r,8*r+1≤m→Nt L.length r (uf L m l o)
 opd:∀r,8*r+4≤m→Nt L.length r (eT L m)
 app:∀w x r,8*r+4≤m→Nt L.length r (lQ L m w x)
 lam:∀w r,8*r+1≤m→Nt L.length r (iL L m w)
 lams:∀l r,8*r+1≤m→Nt L.length r (jG L m l)
 lt:∀k w r,8*r+2≤m→Nt L.length r (rG L m k w)
 bd:∀r,8*r+1≤m→Nt L.length r (Gi L m)
 ands:∀l r,8*r+1≤m→Nt L.length r (gY L m l)
 atom:∀r,8*r+3≤m→Nt L.length r (nG L m)
 alts:∀l r,8*r+4≤m→Nt L.length r (lS L m l)
theorem YW:∀m,NtE L m
 |0=>⟨fun r h=>by omega,fun l o r h=>by omega,fun r h=>by omega,fun w x r h=>by omega,fun w r h=>by omega,fun l r h=>by omega,fun k w r h=>by omega,fun r h=>by omega,fun l r h=>by omega,fun r h=>by omega,fun l r h=>by omega⟩
 |m+1=>by
  have H:=YW m;have G:=Oy (L:=L) m;obtain⟨T,_,_⟩:=Nw (L:=L) m;have GT:=(wP (L:=L) m).1;obtain⟨_,P,_⟩:=YV (L:=L) m;have GP:=(KC (L:=L) m).2.1;refine⟨fun r h=>?_,fun l o r h=>?_,fun r h=>?_,fun w x r h=>?_,fun w r h=>?_,fun l r h=>?_,fun k w r h=>?_,fun r h=>?_,fun l r h=>?_,fun r h=>?_,fun l r h=>?_⟩
  ·rw[iI];exact .deep (.b1 (H.opd _ (by omega)) G.opd fun r' e x=>.bind0 (H.ops _ _ _ (by omega)) (G.ops _ _) fun q=>.clash _ _)
  ·rw[uf];exact .kind (.tk (by decide) fun r' e t=>.bind0 (H.opd _ (by omega)) G.opd.le fun x=>H.ops _ _ _ (by omega)) (.pure _)
  ·rw[eT]
   refine .next fun t=>.may (fun r' e=>H.lam _ _ (by omega)) (.may (fun r' e=>.may (fun r2 e2=>H.lt _ _ _ (by omega)) (H.lt _ _ _ (by omega))) (.may (fun r' e=>?_) (.b1 (H.atom _ (by omega)) G.atom fun r' e x=>H.app _ _ _ (by omega))))
   exact .bind0 (H.ex _ (by omega)) G.ex.le fun a=>.tk (by decide) fun r2 e2 _=>.bind0 (H.ex _ (by omega)) G.ex.le fun b=>.tk (by decide) fun r3 e3 _=>.bind0 (H.ex _ (by omega)) G.ex.le fun c=>.pure _
  ·rw[lQ];exact .st (.b1 (H.atom _ (by omega)) G.atom fun r' e y=>H.app _ _ _ (by omega)) (.pure _)
  ·rw[iL];exact .tk (by decide) fun r' e t=>H.lams _ _ (by omega)
  ·rw[jG];exact .kindU (by decide) (fun r' e t=>H.lams _ _ (by omega)) (.tk (by decide) fun r' e _=>.bind0 (H.ex _ (by omega)) G.ex.le fun e=>.pure _)
  ·rw[rG];exact .b1 (H.bd _ (by omega)) G.bd fun r' e b=>.bind0 (H.ands _ _ (by omega)) (G.ands _) fun l=>.tk (by decide) fun r2 e2 _=>.bind0 (H.ex _ (by omega)) G.ex.le fun e=>.pure _
  ·rw[Gi];exact .b1 (Ue _) Dm fun r' e t=>.tk (by decide) fun r2 e2 _=>.bind0 (H.ex _ (by omega)) G.ex.le fun e=>.pure _
  ·rw[gY];exact .may (fun r' e=>.bind0 (H.bd _ (by omega)) G.bd.le fun b=>H.ands _ _ (by omega)) (.pure _)
  ·rw[nG]
   refine .nextT (.if' (by decide) (fun _ _ t=>.pure _) (.if' (by decide) (fun _ _ t=>.pure _) (.if' (by decide) (fun _ _ t=>.pure _) (.if' (by decide) (fun _ _ t=>.pure _) (.of fun t=>?_)))));refine .may (fun r' e=>.bind0 (H.ex _ (by omega)) G.ex.le fun x=>.tk (by decide) fun r2 e2 _=>.bind0 (H.alts _ _ (by omega)) (G.alts _).le fun l=>.tk (by decide) fun _ _ _=>.pure _)
    (.tk (by decide) fun r' e _=>.may (fun _ _=>.pure _) (.kind (.tk (by decide) fun _ _ o=>.tk (by decide) fun _ _ _=>.pure _) (.b1 (H.ex _ (by omega)) G.ex fun r2 e2 y=>?_)))
   exact .may (fun r3 e3=>.bind0 (T _ (by omega)) GT.le fun ty=>.tk (by decide) fun _ _ _=>.pure _) (.tk (by decide) fun _ _ _=>.pure _)
  ·rw[lS];exact .b1 (P _ (by omega)) GP fun r' e p=>.tk (by decide) fun r2 e2 _=>.bind0 (H.ex _ (by omega)) G.ex.le fun e=>.may (fun r3 e3=>H.alts _ _ (by omega)) (.pure _)
theorem YU:∀m l r,8*r+1≤m→Nt L.length r (rT L m l)
 |0,l,r,h=>by omega
 |m+1,l,r,h=>by rw[rT];exact .may (fun r' e=>.tk (by decide) fun r2 e2 t=>YU m _ _ (by omega)) (.pure _)
theorem Im(m r:Nat)(h:8*r+1≤m):Nt L.length r (kZ L m):=.tk (by decide) fun r' e t=>YU m _ _ (by omega)
theorem Ud:∀m l r,8*r+1≤m→Nt L.length r (lY L m l)
 |0,l,r,h=>by omega
 |m+1,l,r,h=>by rw[lY];exact .kind (.tk (by decide) fun r' e t=>Ud m _ _ (by omega)) (.pure _)
theorem Ug:∀m l r,8*r+1≤m→Nt L.length r (kU L m l)
 |0,l,r,h=>by omega
 |m+1,l,r,h=>by rw[kU];exact .tk (by decide) fun r' e c=>.bind0 ((Nw m).2.2 _ _ (by omega)) ((wP m).2.2 _) fun tl=>.may (fun r2 e2=>Ug m _ _ (by omega)) (.pure _)
theorem ac9(m r:Nat)(h:8*r+1≤m):Nt L.length r (F7 L m):=
 .tk (by decide) fun r' e t=>.bind0 (Ud m _ _ (by omega)) (KD m _) fun ps=>.tk (by decide) fun r2 e2 _=>.bind0 (Ug m _ _ (by omega)) (KF m _).le fun cs=>
  .may (fun r3 e3=>.tk (by decide) fun r4 e4 _=>.bind0 (Im m _ (by omega)) (Az m).le fun ds=>.tk (by decide) fun _ _ _=>.pure _) (.pure _)
theorem ES:∀m ms ds r,8*r+1≤m→Nt L.length r (gQ L m ms ds)
 |0,ms,ds,r,h=>by omega
 |m+1,ms,ds,r,h=>by
  rw[gQ];exact .may (fun _ _=>.pure _) (.may (fun r' e=>.bind0 ((YW m).bd _ (by omega)) (Oy m).bd.le fun b=>.tk (by decide) fun r2 e2 _=>ES m _ _ _ (by omega))
   (.b1 (Ue _) Dm fun r' e n=>.tk (by decide) fun r2 e2 _=>.bind0 ((Nw m).1 _ (by omega)) (wP m).1.le fun ty=>.tk (by decide) fun r3 e3 _=>ES m _ _ _ (by omega)))
theorem ac8(m r:Nat)(h:8*r+1≤m):Nt L.length r (OA L m):=.may (fun r' e=>Im m _ (by omega)) (.pure _)
theorem YZ(m r:Nat)(h:8*r+1≤m):Nt L.length r (xX L m):=
 .tk (by decide) fun r' e t=>.tk (by decide) fun r2 e2 v=>.bind0 (ac8 m _ (by omega)) (UK m) fun sup=>.tk (by decide) fun r3 e3 _=>.bind0 (ES m _ _ _ (by omega)) (zw m _ _) fun q=>.pure _
theorem YX:∀m l r,8*r+1≤m→Nt L.length r (qN L m l)
 |0,l,r,h=>by omega
 |m+1,l,r,h=>by rw[qN];exact .tk (by decide) fun r' e c=>.tk (by decide) fun r2 e2 v=>.may (fun r3 e3=>YX m _ _ (by omega)) (.pure _)
theorem Uf:∀m l r,8*r+1≤m→Nt L.length r (jJ L m l)
 |0,l,r,h=>by omega
 |m+1,l,r,h=>by rw[jJ];exact .may (fun _ _=>.pure _) (.tk (by decide) fun r' e _=>.bind0 ((YW m).bd _ (by omega)) (Oy m).bd.le fun b=>.tk (by decide) fun r2 e2 _=>Uf m _ _ (by omega))
theorem ac7(m r:Nat)(h:8*r+1≤m):Nt L.length r (nV L m):=
 .tk (by decide) fun r' e t=>.bind0 ((Nw m).2.1 _ (by omega)) (wP m).2.1.le fun h=>.bind0 (.may (fun r2 e2=>YX m _ _ (by omega)) (.pure _)) (.may (QL m _).le (.pure _) (by decide)) fun c=>.tk (by decide) fun r3 e3 _=>.bind0 (Uf m _ _ (by omega)) (KE m _) fun bs=>.pure _
theorem yQ:∀m p r,8*r+1≤m→Nt L.length r (dX L m p)
 |0,p,r,h=>by omega
 |m+1,p,r,h=>by
  rw[dX];exact .kind (.pure _) (.may (fun r' e=>.bind0 (ac9 m _ (by omega)) (UL m).le fun x=>.tk (by decide) fun r2 e2 _=>yQ m _ _ (by omega))
   (.may (fun r' e=>.bind0 (YZ m _ (by omega)) (Oz m).le fun x=>.tk (by decide) fun r2 e2 _=>yQ m _ _ (by omega))
   (.may (fun r' e=>.bind0 (ac7 m _ (by omega)) (UJ m).le fun x=>.tk (by decide) fun r2 e2 _=>yQ m _ _ (by omega))
   (.tk (by decide) fun r' e _=>.bind0 ((YW m).bd _ (by omega)) (Oy m).bd.le fun x=>.tk (by decide) fun r2 e2 _=>yQ m _ _ (by omega)))))
theorem asl(L:List Tk)(d:Int):∃m,iI L m d 0≠.out:=⟨8*L.length+5,(YW _).ex L.length (Nat.le_refl _) d 0 (by omega)⟩
theorem VU(L:List Tk)(p:Pg)(d:Int):∃m,dX L m p d 0≠.out:=⟨8*L.length+1,yQ _ p L.length (Nat.le_refl _) d 0 (by omega)⟩
end
end Go.Proofs.YtfphhabaeggenaaGreatDoor
namespace Go.Proofs.YtfphhabaeggenaaGreatDoor
open Go.RowKit
set_option linter.all false
abbrev pg0:Pg:=⟨⟨[],[],[]⟩,[]⟩
theorem UI{L:List Tk}:∀m p,Gp L.length 0 (dX L m p)
 |0,p=>iN fun d a=>by rw[dX];rfl
 |m+1,p=>by
  rw[dX];have k:∀p,Gp L.length 0 (ax (aR L 7 Ms) fun _=>dX L m p):=fun p=>.le (.bind1 (.take (by decide) _) fun _=>UI m _)
  exact .kind (.pure _) (.may (.le (.bind1 (UL m) fun x=>k _)) (.may (.le (.bind1 (Oz m) fun x=>k _)) (.may (.le (.bind1 (UJ m) fun x=>k _)) (.le (.bind1 (.take (by decide) _) fun _=>.le (.bind1 (Oy m).bd fun x=>k _))) (by decide)) (by decide)) (by decide))
theorem Nf{L:List Tk}{m x:Nat}{p:Pg}(hl:L.length≤60001)(h:dX L m pg0 0 0=.ok p x):x≤60001:=by
 have:=UI (L:=L) m pg0 0 0 p x h;omega
theorem YG(b:ByteArray)(hb:b.size≤1000000):(∃p:Pg,p.aw≤180003∧ev (q6 (sv b))=some (0,pgC p++[iv 0,iv 0]))∨∃e w,e≠0∧ev (q6 (sv b))=some (0,[nS,nS,nS,nS,iv e,iv w]):=by
 have hx:=acW b hb;cases hs:rq b with
 |error p=>
  obtain⟨c,k⟩:=p;rw[hs] at hx;exact .inr ⟨c,k,HY hs,hx⟩
 |ok L=>
  rw[hs] at hx;obtain⟨m,hm⟩:=VU L pg0 0;have hx:=hx m;cases hr:dX L m pg0 0 0 with
  |out=>exact absurd hr hm
  |err e w=>
   have hx:PPr b (dX L m pg0 0 0):=hx;rw[hr] at hx;exact .inr ⟨e,w,ajN hr,hx⟩
  |ok p x=>
   have hx:PPr b (dX L m pg0 0 0):=hx;rw[hr] at hx;have hle:=Nf (D7 hs).2.1 hr;have hw:=((AZ L m pg0).ok 0 0 p x hr).2;have h0:pg0.aw=0:=rfl;exact .inl ⟨p,by omega,hx⟩
end Go.Proofs.YtfphhabaeggenaaGreatDoor
namespace Go.Proofs.YtfphhabaeggenaaGreatDoor.C
open Go.RowKit
mutual
theorem Pm:∀t,(allT t).length≤t.w+1
 |.mk k s n ks=>by
  have:=Po ks;rw[allT,Ty.w,List.length_cons];omega
theorem Po:∀l,(abB l).length≤Ty.wL l
 |[]=>by rw[abB,Ty.wL];exact Nat.le_refl _
 |t::l=>by
  have h1:=Pm t;have h2:=Po l;rw[abB,Ty.wL,List.length_append];omega
end
def jq(v:Ev):List ByteArray:=(v.classes.map Cl.supers).flatten
theorem Pn:∀l:List Cl,((l.map Cl.supers).flatten).length≤bX Cl.aw l
 |[]=>by simp
 |a::l=>by
  have h:=Pn l;have e:bX Cl.aw (a::l)=a.aw+bX Cl.aw l:=rfl;have h2:a.aw=1+a.supers.length+bX mdW a.methods+Bd.awL a.defaults:=rfl;simp only[List.map_cons,List.flatten_cons,List.length_append];omega
structure Bnd(p:Pg):Prop where
 big:Big p.toEv (jq p.toEv) (jq p.toEv).length
 fit:Fit p.toEv
 b:p.binds.length≤1000000000
 ld:p.datas.length≤1000000
 lc:p.classes.length≤1000000
 li:p.insts.length≤1000000
theorem mM{p:Pg}(h:p.aw≤900000):Bnd p:=by
 have hw:p.aw=bX Dt.aw p.datas+bX Cl.aw p.classes+bX It.aw p.insts+Bd.awL p.binds:=rfl;obtain⟨d1,d2⟩:=oU (f:=Dt.aw) (fun x=>by unfold Dt.aw;omega) p.datas;obtain⟨c1,c2⟩:=oU (f:=Cl.aw) (fun x=>by unfold Cl.aw;omega) p.classes;obtain⟨i1,i2⟩:=oU (f:=It.aw) (fun x=>by unfold It.aw;omega) p.insts;have b1:=Bd.awL_len p.binds;have hs:=Pn p.classes;have hcn:cnt (jq p.toEv) []≤(jq p.toEv).length:=List.length_filter_le _ _;have hl:(jq p.toEv).length≤bX Cl.aw p.classes:=hs;have mx:aW=9223372036854775807:=rfl;have hC:∀c∈p.classes,c.supers.length≤900000∧c.defaults.length≤900000∧c.methods.length≤900000∧∀m∈c.methods,m.t.w≤900000:=fun c hc=>by
  have h1:=c2 c hc;have h2:c.aw=1+c.supers.length+bX mdW c.methods+Bd.awL c.defaults:=rfl;obtain⟨m1,m2⟩:=oU (f:=mdW) (fun x=>by unfold mdW;omega) c.methods;have h3:=Bd.awL_len c.defaults;refine⟨by omega,by omega,by omega,fun m hm=>?_⟩;have h4:=m2 m hm;have h5:mdW m=1+m.t.w:=rfl;omega
 refine⟨⟨⟨by rw[mx];omega,fun x hx=>by have:=(hC x hx).1;rw[mx];omega,fun x hx s hs=>List.mem_flatten.2 ⟨x.supers,List.mem_map.2 ⟨x,hx,rfl⟩,hs⟩⟩,by omega,by omega⟩,?_,by omega,by omega,by omega,by omega⟩;refine {d:=by rw[mx];omega,c:=by rw[mx];omega,i:=by rw[mx];omega,m:=fun x hx=>⟨by have:=(hC x hx).2.2.1;omega,by have:=(hC x hx).2.1;omega⟩,x:=fun x hx=>?_,dl:=by omega,dc:=fun x hx=>?_,cl:=by omega,cm:=fun x hx=>⟨by have:=(hC x hx).2.2.1;omega,by have:=(hC x hx).1;rw[mx];omega,fun m hm=>⟨Ty.ok_of _ (by have:=(hC x hx).2.2.2 m hm;rw[mx];omega),by have:=Pm m.t;have:=(hC x hx).2.2.2 m hm;omega⟩⟩ }
 ·have h1:=i2 x hx
  have h2:x.aw=1+x.head.w+bX pdW x.ctx+Bd.awL x.binds:=rfl;obtain⟨m1,m2⟩:=oU (f:=pdW) (fun x=>by unfold pdW;omega) x.ctx;have h3:=Bd.awL_len x.binds;have h4:x.head.kids.length≤x.head.w:=by
   cases hx:x.head with
   |mk k s n ks=>rw[Ty.w];exact Ty.wL_len ks
  exact⟨by rw[mx];omega,by omega,by omega⟩
 ·have h1:=d2 x hx
  have h2:x.aw=1+x.params.length+bX cnW x.cons+x.deriv.length:=rfl;obtain⟨m1,m2⟩:=oU (f:=cnW) (fun x=>by unfold cnW;omega) x.cons;refine⟨by omega,by rw[mx];omega,fun c hc=>?_⟩;have h3:=m2 c hc;have h4:cnW c=1+Ty.wL c.args:=rfl;have h5:=Ty.wL_len c.args;exact⟨by rw[mx];omega,Ty.ok_ofL _ (by rw[mx];omega)⟩
theorem EQ{α:Type}(f:α→List PV)(n:Nat)(hf:∀x,(f x).length=n)(l:List α)(hl:l.length≤1000000):Cj n (l.map f)=true:=by
 unfold Cj;rw[Bool.and_eq_true,List.all_eq_true,decide_eq_true_eq,List.length_map];refine⟨fun c hc=>?_,hl⟩;obtain⟨x,_,rfl⟩:=List.mem_map.1 hc;simp[hf]
theorem asM(l:List Dt)(hl:l.length≤1000000):ev (q17 (aZ l))=some (0,[aZ l]):=by
 refine aS.of ?_;rw[h17];have e:F8 5 [aZ l]=some (0,[aZ l]):=by
  show (if Cj 5 (l.map Dt.cells)=true then _ else none)=_;rw[if_pos (EQ Dt.cells 5 (fun _=>rfl) l hl)];rfl
 rw[e];rfl
theorem alB:ev (q17 nS)=some (0,[nS]):=by
 refine aS.of ?_;rw[h17];rfl
theorem aii(l:List Cl)(hl:l.length≤1000000):ev (q18 (cls l))=some (0,[cls l]):=by
 refine aS.of ?_;rw[h18];have e:F8 6 [cls l]=some (0,[cls l]):=by
  show (if Cj 6 (l.map Cl.cells)=true then _ else none)=_;rw[if_pos (EQ Cl.cells 6 (fun _=>rfl) l hl)];rfl
 rw[e];rfl
theorem alD:ev (q18 nS)=some (0,[nS]):=by
 refine aS.of ?_;rw[h18];rfl
theorem aif(l:List It)(hl:l.length≤1000000):ev (q19 (its l))=some (0,[its l]):=by
 refine aS.of ?_;rw[h19];have e:F8 8 [its l]=some (0,[its l]):=by
  show (if Cj 8 (l.map It.cells)=true then _ else none)=_;rw[if_pos (EQ It.cells 8 (fun _=>rfl) l hl)];rfl
 rw[e];rfl
theorem alA:ev (q19 nS)=some (0,[nS]):=by
 refine aS.of ?_;rw[h19];rfl
theorem asQ(es:List (List PV))(l:List Dt)(h0:es≠[])(he:es.map Ch=l.map Dt.cells)(h5:∀c∈es,c.length=5)(hl:es.length≤1000000):ev (aqb (.rows es))=some (0,[.rows es,aZ l]):=by
 refine aS.of ?_;rw[ayk];have e:aa4 [.rows es]=some (0,[.rows es,aZ l]):=by
  cases es with
  |nil=>exact absurd rfl h0
  |cons x es=>
   show (if Cj 5 (x::es)=true then _ else none)=_;have h:Cj 5 (x::es)=true:=by
    unfold Cj;rw[Bool.and_eq_true,List.all_eq_true,decide_eq_true_eq];exact⟨fun c hc=>by simpa using h5 c hc,hl⟩
   rw[if_pos h,he];rfl
 rw[e];rfl
def rQ(p:Pg)(r:Option wD):List PV:=match r with
 |some (e,a)=>[nS,nS,nS,iv e,iv a]
 |none=>[aZ p.datas,cls p.classes,its p.insts,iv 0,iv 0]
theorem Ga(p:Pg)(hB:Bnd p):ev (q7 (aZ p.datas) (cls p.classes) (its p.insts) (bg p.binds))=some (0,rQ p (bF p.toEv (jq p.toEv).length p.binds)):=by
 obtain⟨m,hr⟩:=agE hB.big hB.fit p.binds hB.b;have h1:=asM p.datas hB.ld;have h2:=aii p.classes hB.lc;have h3:=aif p.insts hB.li;refine aS.of ?_;rw[h7];cases hF:bF p.toEv (jq p.toEv).length p.binds with
 |none=>
  rw[hF] at hr;simp only[List.cons_append,List.nil_append] at hr;simp[h1,h2,h3,hr,rQ]
 |some F=>
  have hn:=AY hF;obtain⟨e,a⟩:=F;rw[hF] at hr;simp only[List.cons_append,List.nil_append] at hr hn;simp[h1,h2,h3,hr,rQ,hn]
theorem IY(p:Pg)(hB:Bnd p)(es:List (List PV))(h0:es≠[])(he:es.map Ch=p.datas.map Dt.cells)(h5:∀c∈es,c.length=5):ev (q7a (cls p.classes) (its p.insts) (bg p.binds) (.rows es))=some (0,.rows es::rQ p (bF p.toEv (jq p.toEv).length p.binds)):=by
 obtain⟨m,hr⟩:=agE hB.big hB.fit p.binds hB.b;have h1:=asQ es p.datas h0 he h5 (by
  have:=congrArg List.length he;rw[List.length_map,List.length_map] at this;rw[this];exact hB.ld)
 have h2:=aii p.classes hB.lc;have h3:=aif p.insts hB.li;refine aS.of ?_;rw[h7a];cases hF:bF p.toEv (jq p.toEv).length p.binds with
 |none=>
  rw[hF] at hr;simp only[List.cons_append,List.nil_append] at hr;simp[h1,h2,h3,hr,rQ]
 |some F=>
  have hn:=AY hF;obtain⟨e,a⟩:=F;rw[hF] at hr;simp only[List.cons_append,List.nil_append] at hr hn;simp[h1,h2,h3,hr,rQ,hn]
set_option maxRecDepth 100000 in
theorem aQ{β:Type}{d:β}{k:AV→β}{t:TypeId}{sz by_:Nat}(ht:jQ PG t sz by_):mG PG d t (.pv (.lit (.slice none 0 0))) k=k (.pv (iv 0)):=by
 obtain⟨⟨e,zc,hu,_⟩,_⟩:=ht;have hl:∀ty,dO PG .len #[t] ty [.pv (.lit (.slice none 0 0))]=some (.pv (iv 0)):=by
  intro ty;have h1:FB PG #[t] (.pv (.lit (.slice none 0 0)))=none:=rfl;have h2:aP PG (Builtin.len_ #[t] ty #[.slice none 0 0])=some (.int .i64 0):=by
   simp[Builtin.len_,bB,iZ hu];rfl
  have h3:(AV.pv (.lit (.slice none 0 0))).val? = some (.slice none 0 0):=rfl;unfold dO;simp only[h1,h2,h3];rfl
 exact fM (fun w=>⟨fun h=>by have h:=h 0;rw[hl 0] at h;exact(Option.some.inj h).symm,fun h=>by subst h;exact hl⟩) (bH _)
theorem aqD:ev (CV (iv 0) (iv 0) nS nS nS nS (.rows []))=some (1,[nS,nS,nS,.rows []]):=aS.of (by rw[Kt];simp[aQ gD,aQ gZ,aQ gN,aQ jK])
theorem aqC:ev (CU (iv 0) (iv 0) nS (.rows []) nS nS nS (.rows []))=some (1,[.rows [],nS,nS,nS,.rows []]):=aS.of (by rw[zn];simp[aQ gD,aQ gZ,aQ gN,aQ jK])
theorem n58:ev (ajH nS nS nS (.rows []))=some (0,[nS,nS,nS,.rows []]):=aS.of (by rw[aq0];simp[aQ gD,aQ gZ,aQ gN,aQ jK,aqD,aqC])
theorem aj5:ev (CS (iv 0) (iv 0) nS nS nS nS nS (.rows []))=some (1,[nS,nS,nS,.rows [],nS]):=aS.of (by rw[Kr];simp[aQ gD,aQ gZ,aQ gN,aQ jK])
theorem aj4:ev (CR (iv 0) (iv 0) nS nS nS nS nS (.rows []))=some (1,[nS,nS,nS,.rows [],nS]):=aS.of (by rw[Kq];simp[aQ gD,aQ gZ,aQ gN,aQ jK])
theorem aj3:ev (CQ (iv 0) (iv 0) nS nS nS nS nS (.rows []))=some (1,[nS,nS,nS,.rows [],nS]):=aS.of (by rw[Ko];simp[aQ gD,aQ gZ,aQ gN,aQ jK])
theorem aj2:ev (CP (iv 0) (iv 0) nS (.rows []) nS nS nS (.rows []))=some (1,[.rows [],nS,nS,nS,.rows []]):=aS.of (by rw[zl];simp[aQ gD,aQ gZ,aQ gN,aQ jK])
theorem n59:ev (ajG nS nS nS (.rows []))=some (0,[nS,nS,nS,.rows []]):=aS.of (by rw[aqZ];simp[aQ gD,aQ gZ,aQ gN,aQ jK,aj5,aj4,aj3,aj2])
theorem aqG:ev (yM (iv 0) (iv 0) nS nS nS nS (.rows []))=some (1,[nS,nS,nS,.rows [],iv 0,iv 0,nS]):=aS.of (by rw[Dl];simp[aQ gD,aQ gZ,aQ gN,aQ jK])
theorem aqF:ev (CX (iv 0) (iv 0) nS nS nS nS nS (.rows []))=some (1,[nS,nS,nS,.rows [],iv 0,iv 0,nS]):=aS.of (by rw[Ky];simp[aQ gD,aQ gZ,aQ gN,aQ jK])
theorem aqE:ev (CW (iv 0) (iv 0) nS nS nS nS nS (.rows []))=some (1,[nS,nS,nS,.rows [],iv 0,iv 0]):=aS.of (by rw[Kv];simp[aQ gD,aQ gZ,aQ gN,aQ jK])
theorem acG:ev (ajJ nS nS nS nS (.rows []))=some (0,[nS,nS,nS,.rows [],iv 0,iv 0]):=aS.of (by rw[QJ];simp[aQ gD,aQ gZ,aQ gN,aQ jK,n58,n59,aqG,aqF,aqE])
theorem af6:ev (q7 nS nS nS nS)=some (0,[nS,nS,nS,iv 0,iv 0]):=aS.of (by rw[h7];simp[aQ gD,aQ gZ,aQ gN,aQ jK,alB,alD,alA,acG])
end Go.Proofs.YtfphhabaeggenaaGreatDoor.C
namespace Go.Proofs.YtfphhabaeggenaaGreatDoor.C
open Go.RowKit
set_option linter.all false
set_option maxRecDepth 100000
theorem BH{P:Program}{t:TypeId}(h:P.underlying t=some (.int .i64))(d:Nat)(a b:Int):aP P (Op.equalIn (d+1) t (.int .i64 a) (.int .i64 b))=some (a==b):=by
 simp only[Op.equalIn,bB,iZ h,Option.bind_some];rfl
theorem uK{P : Program}{t t1 t2 : TypeId}{f1 f2 : Field}(d : Nat)(hs : P.underlying t = some (.struct #[f1, f2]))(hp : P.stoodInHeld t = false)(n1 : f1.name ≠ "_")(n2 : f2.name ≠ "_")(h1 : P.underlying f1.type = some (.int .i64))(h2 : P.underlying f2.type = some (.int .i64))
  (p1:∀a b:Int,aP P (part f1.type #[.int .i64 a,.int .i64 b] f1.offset)=some (.int .i64 a)) (p2:∀a b:Int,aP P (part f2.type #[.int .i64 a,.int .i64 b] f2.offset)=some (.int .i64 b)) (a b a' b':Int) :
  aP P (Op.equalIn (d+2) t (.agg #[.int .i64 a,.int .i64 b]) (.agg #[.int .i64 a',.int .i64 b']))=some ((a==a')&&(b==b')):=by
 rw[Op.equalIn];simp only[bB,iZ hs,Option.bind_some];have hpr:aP P program=some P:=rfl;simp only[hpr,Option.bind_some,hp,Bool.false_eq_true,if_false];rw[←Array.forIn_toList];simp only[List.forIn_cons,List.forIn_nil,if_pos n1,if_pos n2,ne_eq,n1,n2,not_false_eq_true,if_true,bB,p1,p2,Option.bind_some];have e1:=BH h1 d a a';have e2:=BH h2 d b b';rw[e1];simp only[Option.bind_some];cases a==a' with
 |false=>rfl
 |true=>
  simp only[Bool.not_true,Bool.false_eq_true,if_false,bB,p1,p2,Option.bind_some,Bool.true_and];have e0:∀{α:Type} (x:α),aP P (pure x:Go.Sem α)=some x:=fun _=>rfl
  simp only[e0,Option.bind_some,bB,p1,p2,e2];cases b==b'<;>rfl
theorem aeS(x y:Operand)(a b c d:Int):aP PG (eqGuard .eql 31 x y (.agg #[.int .i64 a,.int .i64 b]) (.agg #[.int .i64 c,.int .i64 d]))=some ():=by kernel_rfl
def fdC : Field := { name := "Code", type := 29, offset := 0, embedded := false, tag := "", pkgPath := "", byteOffset := 0 }
def fdA : Field := { name := "At", type := 3, offset := 1, embedded := false, tag := "", pkgPath := "", byteOffset := 8 }
theorem ami:PG.underlying 31=some (.struct #[fdC,fdA]):=by kernel_rfl
theorem akw:PG.stoodInHeld 31=false:=by kernel_rfl
theorem ak3(a b c d:Int):aP PG (Op.equalIn (Op.maxDepth-2+2) 31 (.agg #[.int .i64 a,.int .i64 b]) (.agg #[.int .i64 c,.int .i64 d]))=some ((a==c)&&(b==d)):=
 uK (t1:=3) (t2:=3) (f1:=fdC) (f2:=fdA) _ ami akw (by decide) (by decide) (by kernel_rfl) (by kernel_rfl) (fun a b=>by kernel_rfl) (fun a b=>by kernel_rfl) a b c d
theorem abr{P:Program}{t:TypeId}{x y:Operand}{A B:Array Value}{u v:AV}{r:Bool}(hg:aP P (eqGuard .eql t x y (.agg A) (.agg B))=some ())(he:aP P (Op.equal t (.agg A) (.agg B))=some r)(hu:u.val? = some (.agg A))(hv:v.val? = some (.agg B)):Cu P .eql t x y u v=some (.pv (bv r)):=by
 have h:aP P (do eqGuard .eql t x y (.agg A) (.agg B);binOp .eql t (.agg A) (.agg B))=some (.bool r):=by
  rw[bB,hg];show aP P (Op.equal t (.agg A) (.agg B) >>= fun r=>(pure (Value.bool r):Go.Sem Value))=_;rw[bB,he];rfl
 unfold Cu;rw[hu,hv];simp only[OI];rw[h];rfl
theorem ayF(x y:Operand)(a b c d:Int):Cu PG .eql 31 x y (.agg [.pv (iv a),.pv (iv b)]) (.agg [.pv (iv c),.pv (iv d)])=some (.pv (bv ((a==c)&&(b==d)))):=
 abr (aeS x y a b c d) (ak3 a b c d) rfl rfl
theorem asY{r:AV}(a b c d:Int):fq PG .eql 31 (.agg [.pv (iv a),.pv (iv b)]) (.agg [.pv (iv c),.pv (iv d)]) r↔r=.pv (bv ((a==c)&&(b==d))):=fq.iff fun x y=>ayF x y a b c d
theorem Lf{β:Type}{d:β}{k:AV→β}(a b c e:Int):qP PG d .eql 31 (.agg [.pv (.lit (.int .i64 a)),.pv (.lit (.int .i64 b))]) (.agg [.pv (.lit (.int .i64 c)),.pv (.lit (.int .i64 e))]) k=k (.pv (bv ((a==c)&&(b==e)))):=lM (fun _=>asY a b c e) (bH _)
section
variable{β:Type}{d:β}{k:PV→β}
theorem abz{t:TypeId}{sz by_:Nat}(ht:jQ PG t sz by_){es:List (List PV)}(h0:es≠[])(hs:∀c∈es,c.length=sz)(hl:es.length≤1000000)(hy:by_≤1000)(hn:NS (.rows es)):pO PG d t (.pv (.rows [])) (.pv (.rows es)) k=k (.rows es):=
 wB (fun w=>Bf ht (es:=[]) rfl rfl h0 hs (by simp;omega) (by
  have:es.length*by_≤1000000*1000:=Nat.mul_le_mul hl hy;simp;omega)) hn
theorem alN{t:TypeId}{sz by_:Nat}(ht:jQ PG t sz by_){es:List (List PV)}{c:List PV}(hc:c.length=sz)(hl:es.length≤1000000)(hy:by_≤1000)(hn:NS (.rows (es++[c]))):pO PG d t (.pv (.rows es)) (.pv (.rows [c])) k=k (.rows (es++[c])):=
 wB (fun w=>Bf ht (es:=es) (es':=[c]) rfl rfl (by simp) (by simpa using hc) (by simp;omega) (by
  have:(es.length+1)*by_≤1000001*1000:=Nat.mul_le_mul (by omega) hy;simp;omega)) hn
theorem Pj{t:TypeId}{s:AV}{c:List PV}{es:List (List PV)}{k:β}:wV PG d t s (.pv (.rows (c::es))) k=d:=by
 unfold wV;rw[if_neg];rintro⟨e,sz,by_,zc,_,_,_,_,_,h⟩;cases h
theorem axV:agu Tryz.prog 23 (.pv (iv 0)) (.rows []):=⟨41,5,96,[.pv (sv eB),.pv nS,.pv nS,.pv nS,.pv (iv 0)],[sv eB,nS,nS,nS,iv 0],0,by kernel_rfl,by kernel_rfl,by kernel_rfl,by kernel_rfl,rfl,by decide,rfl,rfl,by decide,by decide,rfl,rfl⟩
theorem Ul:mkK PG d 23 (.pv (.lit (.int .i64 0))) k=k (.rows []):=jY fun w=>⟨fun⟨h,_⟩=>by
  obtain⟨e,sz,by_,zc,z,n,_,_,_,_,_,_,_,h8,_,_,h11,_⟩:=h;have:n=0:=by
   have h8:some (0:Int)=some (n:Int):=h8;injection h8 with h8
   omega
  subst this;exact h11,fun h=>by subst h;exact⟨axV,sI []⟩⟩
theorem aiS{es:List (List PV)}{c:List PV}(hc:c.length=5)(hn:NS (.rows (es++[setAt c 3 [nS]]))):D6 d (.rows (es++[c])) (.lit (.int .i64 (es.length:Nat))) 3 [nS] k=k (.rows (es++[setAt c 3 [nS]])):=jY fun w=>by
 have e1:(es++[c]).getD es.length []=c:=by simp
 have e2:(es++[c]).set es.length (setAt c 3 [nS])=es++[setAt c 3 [nS]]:=by simp
 constructor
 ·rintro⟨⟨es',n,kd,h1,h2,_,_,_,h6,_⟩,_⟩
  injection h1 with h1
  subst h1;injection h2 with h2
  injection h2 with _ h2
  subst h2;rw[h6,Int.toNat_natCast,e1,e2]
 ·rintro rfl
  refine⟨⟨es++[c],es.length,.i64,rfl,rfl,Int.natCast_nonneg _,by simp,?_,?_,mE hn⟩,hn⟩
  ·rw[Int.toNat_natCast,e1,hc];decide
  ·rw[Int.toNat_natCast,e1,e2]
end
def nz(x:Dt):List PV:=[sv x.name,strs x.params,nK x.cons,nS,iv x.at_]
theorem aqB(l:List Dt)(x:Dt):NS (.rows (l.map Dt.cells++[nz x])):=by
 have h:NS (aZ l):=by simp
 cases h with
 |rows _ h=>
  refine .rows _ fun c hc p hp=>?_
  rcases List.mem_append.1 hc with hc|hc
  ·exact h c hc p hp
  ·rw[List.mem_singleton.1 hc] at hp
   simp only[nz,List.mem_cons,List.not_mem_nil,or_false] at hp;rcases hp with rfl|rfl|rfl|rfl|rfl<;>simp
theorem Ak(l:List Dt)(x:Dt):∀c∈l.map Dt.cells++[nz x],c.length=5:=fun c hc=>by
 rcases List.mem_append.1 hc with hc|hc
 ·obtain⟨y,_,rfl⟩:=List.mem_map.1 hc;rfl
 ·rw[List.mem_singleton.1 hc];rfl
theorem Il(l:List Dt)(x:Dt):(l.map Dt.cells++[nz x]).map Ch=(l++[dst x]).map Dt.cells:=by
 rw[List.map_append,List.map_append,List.map_map];rfl
theorem AP(l:List Dt)(x:Dt):(l++[dst x]).map dst=(l++[x]).map dst:=by rw[List.map_append,List.map_append];rfl
theorem Cv{ds ds':List Dt}{cs:List Cl}{is is':List It}{bs bs':List Bd}(hw:Pg.aw ⟨⟨ds,cs,is⟩,bs⟩≤180003)(h1:bX Dt.aw ds'≤bX Dt.aw ds)(h2:bX It.aw is'≤2*bX It.aw is)(h3:Bd.awL bs'≤Bd.awL bs):Pg.aw ⟨⟨ds',cs,is'⟩,bs'⟩≤900000:=by
 have e1:Pg.aw ⟨⟨ds,cs,is⟩,bs⟩=bX Dt.aw ds+bX Cl.aw cs+bX It.aw is+Bd.awL bs:=rfl;have e2:Pg.aw ⟨⟨ds',cs,is'⟩,bs'⟩=bX Dt.aw ds'+bX Cl.aw cs+bX It.aw is'+Bd.awL bs':=rfl;omega
theorem vH(l:List Dt)(x:Dt):bX Dt.aw (l++[dst x])≤bX Dt.aw (l++[x]):=by
 rw[gM,gM];have e1:bX Dt.aw [dst x]=(dst x).aw+0:=rfl;have e2:bX Dt.aw [x]=x.aw+0:=rfl;have e3:(dst x).aw=1+x.params.length+bX cnW x.cons+0:=rfl;have e4:x.aw=1+x.params.length+bX cnW x.cons+x.deriv.length:=rfl;omega
theorem CJ(l:List It)(x:It):bX It.aw (l++[x]++[x])≤2*bX It.aw (l++[x]):=by
 rw[gM,gM];omega
theorem Ba(l:List Bd)(x:Bd):Bd.awL l≤Bd.awL (l++[x]):=by rw[Bd.awL_app];omega
theorem nL(n:Nat)(h:n≤1000000):IntKind.i64.wrap (n:Int)=(n:Int):=bR (by omega)
section
variable{β:Type}{d:β}{k:PV→β}
theorem S_b{d:β}{k:AV→β}{bl:List Bd}{bx:Bd}:xk PG d 26 (.pv (bg (bl++[bx]))) none (some (.pv (.lit (.int .i64 (bl.length:Int))))) k=k (.pv (bg bl)):=by
 rw[uy (by simp),List.take_left]
theorem A_d{dl:List Dt}{dx:Dt}(h:(dl++[dx]).length≤1000000):pO PG d 23 (.pv (.rows [])) (.pv (aZ (dl++[dx]))) k=k (aZ (dl++[dx])):=
 abz gD (by simp) (by intro c hc;obtain⟨y,_,rfl⟩:=List.mem_map.1 hc;rfl) (by rw[List.length_map];exact h) (by decide) (Y2 (dl++[dx]))
theorem agw{dl:List Dt}{dx:Dt}{s:AV}{k:bG}:wV PG .fail 23 s (.pv (aZ (dl++[dx]))) k=.fail:=by
 cases dl with
 |nil=>exact Pj
 |cons y l=>exact Pj
theorem T_d{dl:List Dt}{dx:Dt}:D6 d (aZ (dl++[dx])) (.lit (.int .i64 (dl.length:Int))) 3 [nS] k=k (.rows (dl.map Dt.cells++[nz dx])):=by
 have h:=aiS (d:=d) (k:=k) (es:=dl.map Dt.cells) (c:=Dt.cells dx) rfl (aqB dl dx);rw[List.length_map] at h;have e:aZ (dl++[dx])=.rows (dl.map Dt.cells++[Dt.cells dx]):=by show PV.rows ((dl++[dx]).map Dt.cells)=_;rw[List.map_append];rfl
 rw[e];exact h
theorem NR(il:List It)(ix:It):its (il++[ix]++[ix])=.rows ((il++[ix]).map It.cells++[It.cells ix]):=by show PV.rows ((il++[ix]++[ix]).map It.cells)=_;rw[List.map_append];rfl
theorem I_i{il:List It}{ix:It}(h:(il++[ix]).length≤1000000):pO PG d 25 (.pv (.rows [])) (.pv (its (il++[ix]))) k=k (its (il++[ix])):=
 abz gN (by simp) (by intro c hc;obtain⟨y,_,rfl⟩:=List.mem_map.1 hc;rfl) (by rw[List.length_map];exact h) (by decide) (Y1 (il++[ix]))
theorem J_i{il:List It}{ix:It}(h:(il++[ix]).length≤1000000):pO PG d 25 (.pv (its (il++[ix]))) (.pv (.rows [[sv ix.cls,iv ix.head.kind,sv ix.head.name,iv ix.head.n,aV ix.head.kids,jT ix.ctx,bg ix.binds,iv ix.at_]])) k=k (its (il++[ix]++[ix])):=by
 have h:=alN (d:=d) (k:=k) gN (es:=(il++[ix]).map It.cells) (c:=It.cells ix) rfl (by rw[List.length_map];exact h) (by decide) (by have h:=Y1 (il++[ix]++[ix]);rwa [NR] at h);rw[NR];exact h
theorem X_d{dl:List Dt}{dx:Dt}:(dl++[dx])[dl.length]? = some dx:=by simp
theorem Y_i{il:List It}{ix:It}:(il++[ix])[il.length]? = some ix:=by simp
theorem gt1(n:Nat):(0:Int)<(n:Int)+1:=by omega
theorem ne1(n:Nat):¬((n:Int)+1=0):=by omega
end
theorem uSz:PG.underlying 9=some .string:=by kernel_rfl
theorem pE{β:Type}{d:β}{k:AV→β}(b:ByteArray):mG PG d 9 (.pv (.lit (.string b))) k=k (.pv (iv b.size)):=fM (fun _=>adk uSz b) (bH _)
theorem law_ev(b:ByteArray):ev (q3 (sv b))=some (0,[bv true]):=by
 have hawk:ev q5=some (0,[bt]):=by
  refine aS.of ?_;rw[h5];rfl
 refine aS.of ?_;rw[h3];by_cases h0:(3000:Int)<(b.size:Int)
 ·simp[pE,hawk,h0]
 rcases YG b (by omega) with⟨p,hw,hp⟩|⟨e,w,he,hp⟩
 rotate_left
 ·simp[pE,hawk,h0,hp,af6,he,aQ gD]
 have hp:ev (q6 (sv b))=some (0,[aZ p.datas,cls p.classes,its p.insts,bg p.binds,iv 0,iv 0]):=hp;have hB:=mM (p:=p) (by omega);have hc:=Ga p hB;cases hF:bF p.toEv (jq p.toEv).length p.binds with
 |some F=>
  have hn:=AY hF;obtain⟨e,a⟩:=F;rw[hF] at hc;simp only[rQ] at hc hn;simp[pE,hawk,h0,hp,hc,hn]
 |none=>
  rw[hF] at hc;simp only[rQ] at hc;obtain⟨⟨ds,cs,is⟩,bs⟩:=p;simp only at hc hp hF hw;have hld:=hB.ld;have hli:=hB.li;have hlb:bs.length≤900000:=by
   have h1:=Bd.awL_len bs;have e1:Pg.aw ⟨⟨ds,cs,is⟩,bs⟩=bX Dt.aw ds+bX Cl.aw cs+bX It.aw is+Bd.awL bs:=rfl;omega
  simp only at hld hli;rcases List.eq_nil_or_concat bs with rfl|⟨bl,bx,rfl⟩<;>(try rw[List.concat_eq_append] at *)<;>rcases List.eq_nil_or_concat ds with rfl|⟨dl,dx,rfl⟩<;>(try rw[List.concat_eq_append] at *)<;>rcases List.eq_nil_or_concat is with rfl|⟨il,ix,rfl⟩<;>(try rw[List.concat_eq_append] at *)
  ·have a1:bF ⟨[],cs,[]⟩ (jq ⟨[],cs,[]⟩).length []=none:=by
    have h:=hF;exact h
   have c1:=Ga ⟨⟨[],cs,[]⟩,[]⟩ (mM (Cv hw (Nat.le_refl _) (by omega) (Nat.le_refl _)));rw[show bF ({datas:=[],classes:=cs,insts:=[] }:Ev) (jq {datas:=[],classes:=cs,insts:=[] }).length []=none from a1] at c1;simp only[rQ] at c1;simp[-qz,-List.map_append,-List.append_assoc,pE,hawk,h0,hp,hc,c1]
  ·have a1:bF ⟨[],cs,il++[ix]⟩ (jq ⟨[],cs,il++[ix]⟩).length []=none:=by
    have h:=hF;exact h
   have c1:=Ga ⟨⟨[],cs,(il++[ix])⟩,[]⟩ (mM (Cv hw (Nat.le_refl _) (by omega) (Nat.le_refl _)));rw[show bF ({datas:=[],classes:=cs,insts:=(il++[ix]) }:Ev) (jq {datas:=[],classes:=cs,insts:=(il++[ix]) }).length []=none from a1] at c1;simp only[rQ] at c1;have a2:bF ⟨[],cs,il++[ix]++[ix]⟩ (jq ⟨[],cs,il++[ix]⟩).length []=some (125,ix.at_):=qy (v:=⟨[],cs,il++[ix]⟩) (w:=⟨[],cs,il++[ix]++[ix]⟩) rfl rfl (by simp) rfl hF;have c2:=Ga ⟨⟨[],cs,(il++[ix]++[ix])⟩,[]⟩ (mM (Cv hw (Nat.le_refl _) (CJ il ix) (Nat.le_refl _)));rw[show bF ({datas:=[],classes:=cs,insts:=(il++[ix]++[ix]) }:Ev) (jq {datas:=[],classes:=cs,insts:=(il++[ix]++[ix]) }).length []=some (125,ix.at_) from a2] at c2;simp only[rQ] at c2;have hwi:=nL il.length (by simp at hli;omega);simp[-qz,-List.map_append,-List.append_assoc,pE,hawk,h0,hp,hc,c1,c2,ne1 il.length,hwi,fZ (Y_i (il:=il) (ix:=ix)),I_i hli,J_i hli,Lf]
  ·have a1:bF ⟨(dl++[dst dx]),cs,[]⟩ (jq ⟨(dl++[dx]),cs,[]⟩).length []=none:=by
    have h:=hF;rw[←h];exact zK (v:=⟨dl++[dx],cs,[]⟩) (w:=⟨dl++[dst dx],cs,[]⟩) (AP dl dx) rfl rfl _ _
   have c1:=IY ⟨⟨(dl++[dst dx]),cs,[]⟩,[]⟩ (mM (Cv hw (vH dl dx) (by omega) (Nat.le_refl _))) (dl.map Dt.cells++[nz dx]) (by simp) (Il dl dx) (Ak dl dx);rw[show bF ({datas:=(dl++[dst dx]),classes:=cs,insts:=[] }:Ev) (jq {datas:=(dl++[dst dx]),classes:=cs,insts:=[] }).length []=none from a1] at c1;simp only[rQ] at c1;have hwd:=nL dl.length (by simp at hld;omega);simp[-qz,-List.map_append,-List.append_assoc,pE,hawk,h0,hp,hc,c1,gt1 dl.length,hwd,A_d hld,agw,iD (X_d (dl:=dl) (dx:=dx)),T_d,Ul]
  ·have a1:bF ⟨(dl++[dst dx]),cs,il++[ix]⟩ (jq ⟨(dl++[dx]),cs,il++[ix]⟩).length []=none:=by
    have h:=hF;rw[←h];exact zK (v:=⟨dl++[dx],cs,(il++[ix])⟩) (w:=⟨dl++[dst dx],cs,(il++[ix])⟩) (AP dl dx) rfl rfl _ _
   have c1:=IY ⟨⟨(dl++[dst dx]),cs,(il++[ix])⟩,[]⟩ (mM (Cv hw (vH dl dx) (by omega) (Nat.le_refl _))) (dl.map Dt.cells++[nz dx]) (by simp) (Il dl dx) (Ak dl dx);rw[show bF ({datas:=(dl++[dst dx]),classes:=cs,insts:=(il++[ix]) }:Ev) (jq {datas:=(dl++[dst dx]),classes:=cs,insts:=(il++[ix]) }).length []=none from a1] at c1;simp only[rQ] at c1;have hwd:=nL dl.length (by simp at hld;omega);have a2:bF ⟨(dl++[dst dx]),cs,il++[ix]++[ix]⟩ (jq ⟨(dl++[dx]),cs,il++[ix]⟩).length []=some (125,ix.at_):=qy (v:=⟨(dl++[dx]),cs,il++[ix]⟩) (w:=⟨(dl++[dst dx]),cs,il++[ix]++[ix]⟩) (AP dl dx) rfl (by simp) rfl hF;have c2:=IY ⟨⟨(dl++[dst dx]),cs,(il++[ix]++[ix])⟩,[]⟩ (mM (Cv hw (vH dl dx) (CJ il ix) (Nat.le_refl _))) (dl.map Dt.cells++[nz dx]) (by simp) (Il dl dx) (Ak dl dx);rw[show bF ({datas:=(dl++[dst dx]),classes:=cs,insts:=(il++[ix]++[ix]) }:Ev) (jq {datas:=(dl++[dst dx]),classes:=cs,insts:=(il++[ix]++[ix]) }).length []=some (125,ix.at_) from a2] at c2;simp only[rQ] at c2;have hwi:=nL il.length (by simp at hli;omega);simp[-qz,-List.map_append,-List.append_assoc,pE,hawk,h0,hp,hc,c1,gt1 dl.length,hwd,A_d hld,agw,iD (X_d (dl:=dl) (dx:=dx)),T_d,Ul,c2,ne1 il.length,hwi,fZ (Y_i (il:=il) (ix:=ix)),I_i hli,J_i hli,Lf]
  ·have a1:bF ⟨[],cs,[]⟩ (jq ⟨[],cs,[]⟩).length bl=none:=by
    have h:=sW bl.length hF;rw[List.take_left] at h;exact h
   have c1:=Ga ⟨⟨[],cs,[]⟩,bl⟩ (mM (Cv hw (Nat.le_refl _) (by omega) (Ba bl bx)));rw[show bF ({datas:=[],classes:=cs,insts:=[] }:Ev) (jq {datas:=[],classes:=cs,insts:=[] }).length bl=none from a1] at c1;simp only[rQ] at c1;have hwb:=nL bl.length (by simp at hlb;omega);simp[-qz,-List.map_append,-List.append_assoc,pE,hawk,h0,hp,hc,c1,gt1 bl.length,hwb,S_b]
  ·have a1:bF ⟨[],cs,il++[ix]⟩ (jq ⟨[],cs,il++[ix]⟩).length bl=none:=by
    have h:=sW bl.length hF;rw[List.take_left] at h;exact h
   have c1:=Ga ⟨⟨[],cs,(il++[ix])⟩,bl⟩ (mM (Cv hw (Nat.le_refl _) (by omega) (Ba bl bx)));rw[show bF ({datas:=[],classes:=cs,insts:=(il++[ix]) }:Ev) (jq {datas:=[],classes:=cs,insts:=(il++[ix]) }).length bl=none from a1] at c1;simp only[rQ] at c1;have hwb:=nL bl.length (by simp at hlb;omega);have a2:bF ⟨[],cs,il++[ix]++[ix]⟩ (jq ⟨[],cs,il++[ix]⟩).length bl=some (125,ix.at_):=qy (v:=⟨[],cs,il++[ix]⟩) (w:=⟨[],cs,il++[ix]++[ix]⟩) rfl rfl (by simp) rfl hF;have c2:=Ga ⟨⟨[],cs,(il++[ix]++[ix])⟩,bl⟩ (mM (Cv hw (Nat.le_refl _) (CJ il ix) (Ba bl bx)));rw[show bF ({datas:=[],classes:=cs,insts:=(il++[ix]++[ix]) }:Ev) (jq {datas:=[],classes:=cs,insts:=(il++[ix]++[ix]) }).length bl=some (125,ix.at_) from a2] at c2;simp only[rQ] at c2;have hwi:=nL il.length (by simp at hli;omega);simp[-qz,-List.map_append,-List.append_assoc,pE,hawk,h0,hp,hc,c1,gt1 bl.length,hwb,S_b,c2,ne1 il.length,hwi,fZ (Y_i (il:=il) (ix:=ix)),I_i hli,J_i hli,Lf]
  ·have a1:bF ⟨(dl++[dst dx]),cs,[]⟩ (jq ⟨(dl++[dx]),cs,[]⟩).length bl=none:=by
    have h:=sW bl.length hF;rw[List.take_left] at h;rw[←h];exact zK (v:=⟨dl++[dx],cs,[]⟩) (w:=⟨dl++[dst dx],cs,[]⟩) (AP dl dx) rfl rfl _ _
   have c1:=IY ⟨⟨(dl++[dst dx]),cs,[]⟩,bl⟩ (mM (Cv hw (vH dl dx) (by omega) (Ba bl bx))) (dl.map Dt.cells++[nz dx]) (by simp) (Il dl dx) (Ak dl dx);rw[show bF ({datas:=(dl++[dst dx]),classes:=cs,insts:=[] }:Ev) (jq {datas:=(dl++[dst dx]),classes:=cs,insts:=[] }).length bl=none from a1] at c1;simp only[rQ] at c1;have hwb:=nL bl.length (by simp at hlb;omega);have hwd:=nL dl.length (by simp at hld;omega);simp[-qz,-List.map_append,-List.append_assoc,pE,hawk,h0,hp,hc,c1,gt1 bl.length,hwb,S_b,gt1 dl.length,hwd,A_d hld,agw,iD (X_d (dl:=dl) (dx:=dx)),T_d,Ul]
  ·have a1:bF ⟨(dl++[dst dx]),cs,il++[ix]⟩ (jq ⟨(dl++[dx]),cs,il++[ix]⟩).length bl=none:=by
    have h:=sW bl.length hF;rw[List.take_left] at h;rw[←h];exact zK (v:=⟨dl++[dx],cs,(il++[ix])⟩) (w:=⟨dl++[dst dx],cs,(il++[ix])⟩) (AP dl dx) rfl rfl _ _
   have c1:=IY ⟨⟨(dl++[dst dx]),cs,(il++[ix])⟩,bl⟩ (mM (Cv hw (vH dl dx) (by omega) (Ba bl bx))) (dl.map Dt.cells++[nz dx]) (by simp) (Il dl dx) (Ak dl dx);rw[show bF ({datas:=(dl++[dst dx]),classes:=cs,insts:=(il++[ix]) }:Ev) (jq {datas:=(dl++[dst dx]),classes:=cs,insts:=(il++[ix]) }).length bl=none from a1] at c1;simp only[rQ] at c1;have hwb:=nL bl.length (by simp at hlb;omega);have hwd:=nL dl.length (by simp at hld;omega);have a2:bF ⟨(dl++[dst dx]),cs,il++[ix]++[ix]⟩ (jq ⟨(dl++[dx]),cs,il++[ix]⟩).length bl=some (125,ix.at_):=qy (v:=⟨(dl++[dx]),cs,il++[ix]⟩) (w:=⟨(dl++[dst dx]),cs,il++[ix]++[ix]⟩) (AP dl dx) rfl (by simp) rfl hF;have c2:=IY ⟨⟨(dl++[dst dx]),cs,(il++[ix]++[ix])⟩,bl⟩ (mM (Cv hw (vH dl dx) (CJ il ix) (Ba bl bx))) (dl.map Dt.cells++[nz dx]) (by simp) (Il dl dx) (Ak dl dx);rw[show bF ({datas:=(dl++[dst dx]),classes:=cs,insts:=(il++[ix]++[ix]) }:Ev) (jq {datas:=(dl++[dst dx]),classes:=cs,insts:=(il++[ix]++[ix]) }).length bl=some (125,ix.at_) from a2] at c2;simp only[rQ] at c2;have hwi:=nL il.length (by simp at hli;omega);simp[-qz,-List.map_append,-List.append_assoc,pE,hawk,h0,hp,hc,c1,gt1 bl.length,hwb,S_b,gt1 dl.length,hwd,A_d hld,agw,iD (X_d (dl:=dl) (dx:=dx)),T_d,Ul,c2,ne1 il.length,hwi,fZ (Y_i (il:=il) (ix:=ix)),I_i hli,J_i hli,Lf]
end Go.Proofs.YtfphhabaeggenaaGreatDoor.C
namespace Go.Proofs.YtfphhabaeggenaaGreatDoor
open Go.RowKit
theorem mixed:Tryz.prog.follows .mixedOrders=true:=by kernel_rfl
def t77:FT where
 keep:=[]
 kb:=fun
  |0=>[17,16,15,6,0,5]
  |2=>[6,0,9,10,7,17,16,15,5]
  |5=>[14,5,6]
  |_=>[]
 sd:=fun
  |_=>[]
theorem jd:Tryz.prog.funcs[77]? = some Tryz.f77:=by kernel_rfl
def au5:FT where
 keep:=[]
 kb:=fun
  |_=>[]
 sd:=fun
  |_=>[]
theorem afd:Tryz.prog.funcs[142]? = some Tryz.f142:=by kernel_rfl
def t79:FT where
 keep:=[]
 kb:=fun
  |_=>[]
 sd:=fun
  |_=>[]
theorem akO:Tryz.prog.funcs[79]? = some Tryz.f79:=by kernel_rfl
def t6:FT where
 keep:=[]
 kb:=fun
  |_=>[]
 sd:=fun
  |_=>[]
theorem asi:Tryz.prog.funcs[6]? = some Tryz.f6:=by kernel_rfl
def t15:FT where
 keep:=[]
 kb:=fun
  |_=>[]
 sd:=fun
  |3=>[(0,true),(1,true),(2,false),(3,false)]
  |_=>[]
 rs:=[4,5]
 df:=true
theorem ak1:Tryz.prog.funcs[15]? = some Tryz.f15:=by kernel_rfl
def t16:FT where
 keep:=[]
 kb:=fun
  |0=>[0,3,2]
  |_=>[]
 sd:=fun
  |6=>[(0,true),(1,true),(2,true),(3,false),(4,false),(5,false),(6,true),(7,false)]
  |8=>[(0,true),(1,true),(2,true),(3,false),(4,false),(5,false),(6,true),(7,false)]
  |10=>[(0,true),(1,true),(2,true),(3,false),(4,false),(5,false),(6,true),(7,false)]
  |4=>[(0,true),(1,true),(2,true),(3,false),(4,false),(5,false),(6,true),(7,false)]
  |_=>[]
theorem je:Tryz.prog.funcs[16]? = some Tryz.f16:=by kernel_rfl
def t49:FT where
 keep:=[]
 kb:=fun
  |_=>[]
 sd:=fun
  |_=>[]
theorem akX:Tryz.prog.funcs[49]? = some Tryz.f49:=by kernel_rfl
def t50:FT where
 keep:=[]
 kb:=fun
  |_=>[]
 sd:=fun
  |1=>[(0,true),(1,true),(2,true),(3,true),(4,true),(5,true),(6,true),(7,true),(8,true),(9,true),(10,false)]
  |_=>[]
theorem akW:Tryz.prog.funcs[50]? = some Tryz.f50:=by kernel_rfl
def t51:FT where
 keep:=[]
 kb:=fun
  |_=>[]
 sd:=fun
  |_=>[]
theorem akV:Tryz.prog.funcs[51]? = some Tryz.f51:=by kernel_rfl
def t52:FT where
 keep:=[]
 kb:=fun
  |0=>[0,4,2]
  |2=>[0,4,2]
  |4=>[0,6,4,2]
  |_=>[]
 sd:=fun
  |4=>[(0,true),(1,true),(2,true),(3,false),(4,true),(5,false),(6,false),(7,true),(8,false)]
  |9=>[(0,true),(1,true),(2,true),(3,false),(4,false),(5,false),(6,true),(7,false)]
  |_=>[]
theorem kK:Tryz.prog.funcs[52]? = some Tryz.f52:=by kernel_rfl
def t55:FT where
 keep:=[]
 kb:=fun
  |_=>[]
 sd:=fun
  |_=>[]
theorem akU:Tryz.prog.funcs[55]? = some Tryz.f55:=by kernel_rfl
def t53:FT where
 keep:=[]
 kb:=fun
  |0=>[0,4,2]
  |_=>[]
 sd:=fun
  |8=>[(0,true),(1,true),(2,true),(3,false),(4,false),(5,false),(6,true),(7,false)]
  |11=>[(0,true),(1,true),(2,true),(3,true),(4,true),(6,true),(7,true),(5,false),(8,true),(9,false),(10,false),(11,true),(12,false)]
  |_=>[]
 sx:=fun
  |2=>some (.look 0 (.look 1 (.look 2 (.look 5 (.look 6 (.eff (.cons 3 (.look 4 (.look 7 (.eff (.cons 8 (.eff (.cons 9 (.done) (.nil))) (.nil))))) (.cons 8 (.eff (.cons 3 (.look 4 (.look 7 (.eff (.cons 9 (.done) (.nil))))) (.nil))) (.nil)))))))),[0,4,2])
  |_=>none
theorem sQ:Tryz.prog.funcs[53]? = some Tryz.f53:=by kernel_rfl
def t54:FT where
 keep:=[]
 kb:=fun
  |0=>[0,4,2]
  |2=>[0,4,2]
  |_=>[]
 sd:=fun
  |5=>[(0,true),(1,true),(2,true),(3,true),(4,false),(5,true),(6,true),(7,true),(8,false),(9,false),(10,true),(11,false)]
  |10=>[(0,true),(1,true),(2,true),(3,false),(4,false),(5,false),(6,true),(7,false)]
  |_=>[]
 sx:=fun
  |2=>some (.look 0 (.look 1 (.look 2 (.look 4 (.look 5 (.eff (.cons 3 (.look 6 (.eff (.cons 7 (.eff (.cons 8 (.done) (.nil))) (.nil)))) (.cons 7 (.eff (.cons 3 (.look 6 (.eff (.cons 8 (.done) (.nil)))) (.nil))) (.nil)))))))),[0,4,2])
  |_=>none
theorem xS:Tryz.prog.funcs[54]? = some Tryz.f54:=by kernel_rfl
def t56:FT where
 keep:=[]
 kb:=fun
  |_=>[]
 sd:=fun
  |3=>[(0,true),(1,true),(2,true),(4,true),(5,true),(3,false),(6,true),(7,false)]
  |_=>[]
theorem akT:Tryz.prog.funcs[56]? = some Tryz.f56:=by kernel_rfl
def t78:FT where
 keep:=[]
 kb:=fun
  |_=>[]
 sd:=fun
  |_=>[]
theorem akP:Tryz.prog.funcs[78]? = some Tryz.f78:=by kernel_rfl
def t76:FT where
 keep:=[]
 kb:=fun
  |_=>[]
 sd:=fun
  |_=>[]
theorem akQ:Tryz.prog.funcs[76]? = some Tryz.f76:=by kernel_rfl
def t96:FT where
 keep:=[]
 kb:=fun
  |_=>[]
 sd:=fun
  |_=>[]
theorem akN:Tryz.prog.funcs[96]? = some Tryz.f96:=by kernel_rfl
def t99:FT where
 keep:=[]
 kb:=fun
  |0=>[0,3]
  |_=>[]
 sd:=fun
  |_=>[]
theorem QR:Tryz.prog.funcs[99]? = some Tryz.f99:=by kernel_rfl
def t97:FT where
 keep:=[]
 kb:=fun
  |_=>[]
 sd:=fun
  |_=>[]
theorem akM:Tryz.prog.funcs[97]? = some Tryz.f97:=by kernel_rfl
def t98:FT where
 keep:=[]
 kb:=fun
  |_=>[]
 sd:=fun
  |_=>[]
theorem akL:Tryz.prog.funcs[98]? = some Tryz.f98:=by kernel_rfl
def avj:FT where
 keep:=[]
 kb:=fun
  |_=>[]
 sd:=fun
  |_=>[]
theorem afx:Tryz.prog.funcs[100]? = some Tryz.f100:=by kernel_rfl
def avi:FT where
 keep:=[]
 kb:=fun
  |_=>[]
 sd:=fun
  |4=>[(0,true),(1,true),(2,false),(3,false),(4,true),(5,false)]
  |_=>[]
 rs:=[2]
 df:=true
theorem afw:Tryz.prog.funcs[101]? = some Tryz.f101:=by kernel_rfl
def t34:FT where
 keep:=[]
 kb:=fun
  |0=>[0,4,5,3,2]
  |2=>[67,66,9,6,3,4,2]
  |4=>[77,76,75,9,3,4,2]
  |6=>[9,13,3,4,12,14,77,76,75,2]
  |_=>[]
 sd:=fun
  |24=>[(0,true),(1,true),(2,true),(3,true),(4,true),(5,true),(6,true),(7,true),(8,true),(9,true),(10,true),(11,true),(12,true),(13,true),(14,false),(15,true),(16,false)]
  |_=>[]
 rs:=[2]
 df:=true
theorem sS:Tryz.prog.funcs[34]? = some Tryz.f34:=by kernel_rfl
def t74:FT where
 keep:=[]
 kb:=fun
  |_=>[]
 sd:=fun
  |3=>[(0,true),(1,true),(2,true),(3,true),(4,false),(5,true),(6,false)]
  |_=>[]
theorem akR:Tryz.prog.funcs[74]? = some Tryz.f74:=by kernel_rfl
def aiG:FT where
 keep:=[]
 kb:=fun
  |0=>[0,3,2]
  |_=>[]
 sd:=fun
  |5=>[(0,true),(1,true),(2,true),(3,false),(4,false),(5,false),(6,true),(7,false)]
  |_=>[]
theorem KL:Tryz.prog.funcs[161]? = some Tryz.f161:=by kernel_rfl
def t75:FT where
 keep:=[]
 kb:=fun
  |1=>[0,6,3,2]
  |_=>[]
 sd:=fun
  |13=>[(0,true),(1,true),(2,true),(5,true),(6,true),(3,false),(4,false),(7,true),(8,false)]
  |_=>[]
theorem QS:Tryz.prog.funcs[75]? = some Tryz.f75:=by kernel_rfl
def t138:FT where
 keep:=[]
 kb:=fun
  |0=>[0,5,1,4]
  |2=>[7,5,6,1,4]
  |_=>[]
 sd:=fun
  |9=>[(0,true),(1,true),(2,true),(3,true),(4,true),(5,true),(7,true),(8,true),(9,true),(10,true),(11,true),(6,false),(12,true),(13,false)]
  |_=>[]
theorem zF:Tryz.prog.funcs[138]? = some Tryz.f138:=by kernel_rfl
def t139:FT where
 keep:=[]
 kb:=fun
  |0=>[0,3,2]
  |_=>[]
 sd:=fun
  |4=>[(0,true),(1,true),(2,true),(3,false),(4,false),(5,false),(6,true),(7,false)]
  |6=>[(0,true),(1,true),(2,true),(3,false),(4,false),(5,false),(6,true),(7,false)]
  |_=>[]
theorem zD:Tryz.prog.funcs[139]? = some Tryz.f139:=by kernel_rfl
def au6:FT where
 keep:=[]
 kb:=fun
  |_=>[]
 sd:=fun
  |_=>[]
theorem aff:Tryz.prog.funcs[140]? = some Tryz.f140:=by kernel_rfl
def t141:FT where
 keep:=[]
 kb:=fun
  |_=>[]
 sd:=fun
  |_=>[]
theorem afe:Tryz.prog.funcs[141]? = some Tryz.f141:=by kernel_rfl
def aiF:FT where
 keep:=[]
 kb:=fun
  |0=>[0,5,4]
  |_=>[]
 sd:=fun
  |_=>[]
theorem KJ:Tryz.prog.funcs[181]? = some Tryz.f181:=by kernel_rfl
def t182:FT where
 keep:=[]
 kb:=fun
  |_=>[]
 sd:=fun
  |_=>[]
 sx:=fun
  |9=>some (.look 0 (.look 2 (.look 4 (.eff (.cons 1 (.eff (.cons 3 (.look 5 (.eff (.cons 6 (.done) (.nil)))) (.nil))) (.cons 3 (.eff (.cons 1 (.look 5 (.eff (.cons 6 (.done) (.nil)))) (.nil))) (.nil)))))),[0,6,4])
  |_=>none
theorem ae3:Tryz.prog.funcs[182]? = some Tryz.f182:=by kernel_rfl
def t208:FT where
 keep:=[]
 kb:=fun
  |0=>[3,0,4,2]
  |_=>[]
 sd:=fun
  |5=>[(0,true),(1,true),(2,true),(3,false),(4,false),(5,false),(6,true),(7,false)]
  |_=>[]
 rs:=[2]
 df:=true
theorem vX:Tryz.prog.funcs[208]? = some Tryz.f208:=by kernel_rfl
def t229:FT where
 keep:=[]
 kb:=fun
  |_=>[]
 sd:=fun
  |_=>[]
theorem aeZ:Tryz.prog.funcs[229]? = some Tryz.f229:=by kernel_rfl
def auY:FT where
 keep:=[]
 kb:=fun
  |_=>[]
 sd:=fun
  |_=>[]
theorem aeY:Tryz.prog.funcs[230]? = some Tryz.f230:=by kernel_rfl
def t109:FT where
 keep:=[]
 kb:=fun
  |_=>[]
 sd:=fun
  |_=>[]
theorem afr:Tryz.prog.funcs[109]? = some Tryz.f109:=by kernel_rfl
def ave:FT where
 keep:=[]
 kb:=fun
  |_=>[]
 sd:=fun
  |_=>[]
theorem afq:Tryz.prog.funcs[110]? = some Tryz.f110:=by kernel_rfl
def t164:FT where
 keep:=[]
 kb:=fun
  |_=>[]
 sd:=fun
  |_=>[]
theorem afc:Tryz.prog.funcs[164]? = some Tryz.f164:=by kernel_rfl
def amq:FT where
 keep:=[]
 kb:=fun
  |1=>[40,39,38,3,1]
  |_=>[]
 sd:=fun
  |_=>[]
theorem UX:Tryz.prog.funcs[106]? = some Tryz.f106:=by kernel_rfl
def t105:FT where
 keep:=[]
 kb:=fun
  |_=>[]
 sd:=fun
  |_=>[]
theorem aft:Tryz.prog.funcs[105]? = some Tryz.f105:=by kernel_rfl
def avh:FT where
 keep:=[]
 kb:=fun
  |_=>[]
 sd:=fun
  |_=>[]
theorem afv:Tryz.prog.funcs[102]? = some Tryz.f102:=by kernel_rfl
def avd:FT where
 keep:=[]
 kb:=fun
  |_=>[]
 sd:=fun
  |_=>[]
theorem afp:Tryz.prog.funcs[111]? = some Tryz.f111:=by kernel_rfl
def t62:FT where
 keep:=[]
 kb:=fun
  |0=>[14,13,12,3]
  |_=>[]
 sd:=fun
  |_=>[]
theorem aaB:Tryz.prog.funcs[62]? = some Tryz.f62:=by kernel_rfl
def t107:FT where
 keep:=[]
 kb:=fun
  |_=>[]
 sd:=fun
  |_=>[]
theorem UW:Tryz.prog.funcs[107]? = some Tryz.f107:=by kernel_rfl
def t167:FT where
 keep:=[]
 kb:=fun
  |0=>[24,23,22,2,3]
  |_=>[]
 sd:=fun
  |_=>[]
theorem vY:Tryz.prog.funcs[167]? = some Tryz.f167:=by kernel_rfl
def amr:FT where
 keep:=[]
 kb:=fun
  |_=>[]
 sd:=fun
  |_=>[]
theorem UY:Tryz.prog.funcs[103]? = some Tryz.f103:=by kernel_rfl
def t168:FT where
 keep:=[]
 kb:=fun
  |_=>[]
 sd:=fun
  |_=>[]
theorem afa:Tryz.prog.funcs[168]? = some Tryz.f168:=by kernel_rfl
def amm:FT where
 keep:=[]
 kb:=fun
  |_=>[]
 sd:=fun
  |_=>[]
theorem UQ:Tryz.prog.funcs[122]? = some Tryz.f122:=by kernel_rfl
def acd:FT where
 keep:=[]
 kb:=fun
  |0=>[8,7,1,0]
  |_=>[]
 sd:=fun
  |_=>[]
theorem Dq:Tryz.prog.funcs[165]? = some Tryz.f165:=by kernel_rfl
def t162:FT where
 keep:=[]
 kb:=fun
  |0=>[8,7,1,0]
  |_=>[]
 sd:=fun
  |_=>[]
theorem Dr:Tryz.prog.funcs[162]? = some Tryz.f162:=by kernel_rfl
def LX:FT where
 keep:=[]
 kb:=fun
  |0=>[8,7,1,0]
  |_=>[]
 sd:=fun
  |_=>[]
theorem qp:Tryz.prog.funcs[172]? = some Tryz.f172:=by kernel_rfl
def ab9:FT where
 keep:=[]
 kb:=fun
  |0=>[8,7,1,0]
  |_=>[]
 sd:=fun
  |_=>[]
theorem Dn:Tryz.prog.funcs[176]? = some Tryz.f176:=by kernel_rfl
def au4:FT where
 keep:=[]
 kb:=fun
  |_=>[]
 sd:=fun
  |_=>[]
theorem afb:Tryz.prog.funcs[166]? = some Tryz.f166:=by kernel_rfl
def t206:FT where
 keep:=[]
 kb:=fun
  |_=>[]
 sd:=fun
  |_=>[]
theorem ae0:Tryz.prog.funcs[206]? = some Tryz.f206:=by kernel_rfl
def au8:FT where
 keep:=[]
 kb:=fun
  |_=>[]
 sd:=fun
  |_=>[]
theorem afh:Tryz.prog.funcs[123]? = some Tryz.f123:=by kernel_rfl
def aml:FT where
 keep:=[]
 kb:=fun
  |0=>[8,7,1,0]
  |_=>[]
 sd:=fun
  |_=>[]
theorem UO:Tryz.prog.funcs[163]? = some Tryz.f163:=by kernel_rfl
def t65:FT where
 keep:=[]
 kb:=fun
  |_=>[]
 sd:=fun
  |_=>[]
theorem aaz:Tryz.prog.funcs[65]? = some Tryz.f65:=by kernel_rfl
def au7:FT where
 keep:=[]
 kb:=fun
  |_=>[]
 sd:=fun
  |_=>[]
theorem afg:Tryz.prog.funcs[125]? = some Tryz.f125:=by kernel_rfl
def t7:FT where
 keep:=[]
 kb:=fun
  |_=>[]
 sd:=fun
  |4=>[(0,true),(1,true),(2,false),(3,false)]
  |_=>[]
 sx:=fun
  |1=>some (.look 0 (.look 1 (.look 3 (.look 4 (.look 6 (.look 7 (.eff (.cons 2 (.eff (.cons 5 (.eff (.cons 8 (.look 9 (.eff (.cons 10 (.look 11 (.eff (.cons 12 (.look 13 (.done)) (.nil)))) (.nil)))) (.cons 10 (.eff (.cons 8 (.look 9 (.look 11 (.eff (.cons 12 (.look 13 (.done)) (.nil))))) (.nil))) (.nil)))) (.cons 10 (.eff (.cons 5 (.eff (.cons 8 (.look 9 (.look 11 (.eff (.cons 12 (.look 13 (.done)) (.nil))))) (.nil))) (.nil))) (.nil)))) (.cons 10 (.eff (.cons 2 (.eff (.cons 5 (.eff (.cons 8 (.look 9 (.look 11 (.eff (.cons 12 (.look 13 (.done)) (.nil))))) (.nil))) (.nil))) (.nil))) (.nil))))))))),[4,1,2,3])
  |_=>none
theorem ahQ:Tryz.prog.funcs[7]? = some Tryz.f7:=by kernel_rfl
def t20:FT where
 keep:=[]
 kb:=fun
  |0=>[26,25,0,1,4]
  |2=>[39,38,37,0,1,4]
  |4=>[49,48,47,0,1,4]
  |_=>[]
 sd:=fun
  |17=>[(0,true),(1,true),(2,true),(3,true),(4,true),(5,true),(6,false),(7,true),(8,true),(9,true),(10,true),(11,true),(12,true),(13,true)]
  |_=>[]
 rs:=[4]
 df:=true
theorem KI:Tryz.prog.funcs[20]? = some Tryz.f20:=by kernel_rfl
def t58:FT where
 keep:=[]
 kb:=fun
  |0=>[24,23,22,0]
  |2=>[64,63,62,8,0]
  |4=>[71,70,69,10,8,0,64,63,62]
  |6=>[90,89,88,8,0,10,64,63,62]
  |8=>[115,114,113,0,10,14,90,89,88,8,64,63,62]
  |_=>[]
 sd:=fun
  |14=>[(0,true),(1,true),(2,true),(3,true),(4,true),(7,true),(8,true),(5,false),(6,true),(9,false)]
  |25=>[(0,true),(1,true),(2,true),(3,true),(4,true),(5,true),(6,true),(7,false),(8,true)]
  |_=>[]
theorem AJ:Tryz.prog.funcs[58]? = some Tryz.f58:=by kernel_rfl
def t59:FT where
 keep:=[]
 kb:=fun
  |0=>[28,27,26,2,0]
  |2=>[49,48,47,0,2]
  |4=>[56,55,54,0,8,49,48,47,2]
  |6=>[88,87,86,0,2]
  |8=>[110,109,108,15,0]
  |10=>[117,116,115,15,0,17,110,109,108]
  |_=>[]
 sd:=fun
  |15=>[(0,true),(1,true),(2,true),(3,true),(4,true),(7,true),(8,true),(5,false),(6,true),(9,false)]
  |21=>[(0,true),(1,true),(2,true),(3,true),(4,true),(5,true),(7,true),(8,true),(11,true),(12,true),(6,false),(9,false),(10,true),(13,false)]
  |32=>[(0,true),(1,true),(2,true),(3,true),(4,true),(5,true),(7,true),(8,true),(6,false),(9,false),(10,true)]
  |34=>[(0,true),(1,true),(3,true),(4,true),(2,false),(5,false)]
  |_=>[]
theorem xR:Tryz.prog.funcs[59]? = some Tryz.f59:=by kernel_rfl
def t60:FT where
 keep:=[]
 kb:=fun
  |0=>[74,73,72,0,4,5]
  |2=>[136,135,134,4,16]
  |_=>[]
 sd:=fun
  |1=>[(0,true),(1,true),(2,true),(3,true),(4,true),(5,true),(6,false),(7,true),(8,true),(9,true),(10,true),(11,true)]
  |5=>[(0,true),(1,true),(2,true),(3,true),(4,true),(5,true),(6,true),(7,true),(8,true),(9,true),(10,true)]
  |7=>[(0,true),(1,true),(2,true),(3,true),(4,true),(5,true),(6,false)]
  |11=>[(0,true),(1,true),(2,true),(3,true),(4,true),(5,true),(6,false),(7,true),(8,true),(9,true),(10,true),(11,true)]
  |24=>[(0,true),(1,true),(2,true),(10,true),(11,true),(3,false),(4,true),(5,true),(6,true),(7,true),(8,false),(9,true),(12,false)]
  |_=>[]
theorem QU:Tryz.prog.funcs[60]? = some Tryz.f60:=by kernel_rfl
def t61:FT where
 keep:=[]
 kb:=fun
  |0=>[35,34,33,0,3]
  |2=>[67,66,65,10,0,3,35,34,33]
  |_=>[]
 sd:=fun
  |1=>[(0,true),(1,true),(2,true),(3,true),(4,true),(5,true),(6,false),(7,true),(8,true),(9,true),(10,true),(11,true)]
  |5=>[(0,true),(1,true),(2,true),(3,true),(4,true),(5,true),(6,true),(7,true),(8,true),(9,true),(10,true),(11,true),(12,true),(13,true),(14,true)]
  |12=>[(0,true),(1,true),(2,true),(3,true),(4,true),(5,true),(6,true),(7,true),(8,true),(9,true),(10,true),(12,true),(13,true),(11,false),(14,false)]
  |_=>[]
theorem QT:Tryz.prog.funcs[61]? = some Tryz.f61:=by kernel_rfl
def t63:FT where
 keep:=[]
 kb:=fun
  |_=>[]
 sd:=fun
  |_=>[]
theorem aaA:Tryz.prog.funcs[63]? = some Tryz.f63:=by kernel_rfl
def amo:FT where
 keep:=[]
 kb:=fun
  |0=>[14,13,12,5,1]
  |_=>[]
 sd:=fun
  |_=>[]
theorem UU:Tryz.prog.funcs[112]? = some Tryz.f112:=by kernel_rfl
def amn:FT where
 keep:=[]
 kb:=fun
  |0=>[50,49,48,3]
  |_=>[]
 sd:=fun
  |1=>[(0,true),(1,true),(2,true),(3,true),(4,true),(5,true),(6,true),(7,false),(8,true),(9,true),(10,true),(11,true),(12,true)]
  |_=>[]
theorem UR:Tryz.prog.funcs[113]? = some Tryz.f113:=by kernel_rfl
def aiH:FT where
 keep:=[]
 kb:=fun
  |_=>[]
 sd:=fun
  |_=>[]
theorem KM:Tryz.prog.funcs[114]? = some Tryz.f114:=by kernel_rfl
def t116:FT where
 keep:=[]
 kb:=fun
  |_=>[]
 sd:=fun
  |_=>[]
theorem afn:Tryz.prog.funcs[116]? = some Tryz.f116:=by kernel_rfl
def t119:FT where
 keep:=[]
 kb:=fun
  |_=>[]
 sd:=fun
  |_=>[]
theorem afk:Tryz.prog.funcs[119]? = some Tryz.f119:=by kernel_rfl
def au9:FT where
 keep:=[]
 kb:=fun
  |_=>[]
 sd:=fun
  |_=>[]
theorem afi:Tryz.prog.funcs[121]? = some Tryz.f121:=by kernel_rfl
def t124:FT where
 keep:=[]
 kb:=fun
  |0=>[8,7,1,0]
  |_=>[]
 sd:=fun
  |_=>[]
theorem vZ:Tryz.prog.funcs[124]? = some Tryz.f124:=by kernel_rfl
def t173:FT where
 keep:=[]
 kb:=fun
  |0=>[8,7,1,0]
  |_=>[]
 sd:=fun
  |_=>[]
theorem Dp:Tryz.prog.funcs[173]? = some Tryz.f173:=by kernel_rfl
def au1:FT where
 keep:=[]
 kb:=fun
  |_=>[]
 sd:=fun
  |_=>[]
theorem ae6:Tryz.prog.funcs[174]? = some Tryz.f174:=by kernel_rfl
def t64:FT where
 keep:=[]
 kb:=fun
  |_=>[]
 sd:=fun
  |_=>[]
theorem akS:Tryz.prog.funcs[64]? = some Tryz.f64:=by kernel_rfl
def avg:FT where
 keep:=[]
 kb:=fun
  |_=>[]
 sd:=fun
  |_=>[]
theorem afu:Tryz.prog.funcs[104]? = some Tryz.f104:=by kernel_rfl
def avf:FT where
 keep:=[]
 kb:=fun
  |_=>[]
 sd:=fun
  |_=>[]
theorem afs:Tryz.prog.funcs[108]? = some Tryz.f108:=by kernel_rfl
def avc:FT where
 keep:=[]
 kb:=fun
  |_=>[]
 sd:=fun
  |_=>[]
theorem afo:Tryz.prog.funcs[115]? = some Tryz.f115:=by kernel_rfl
def t117:FT where
 keep:=[]
 kb:=fun
  |_=>[]
 sd:=fun
  |_=>[]
theorem afm:Tryz.prog.funcs[117]? = some Tryz.f117:=by kernel_rfl
def avb:FT where
 keep:=[]
 kb:=fun
  |_=>[]
 sd:=fun
  |_=>[]
theorem afl:Tryz.prog.funcs[118]? = some Tryz.f118:=by kernel_rfl
def ava:FT where
 keep:=[]
 kb:=fun
  |_=>[]
 sd:=fun
  |_=>[]
theorem afj:Tryz.prog.funcs[120]? = some Tryz.f120:=by kernel_rfl
def au3:FT where
 keep:=[]
 kb:=fun
  |_=>[]
 sd:=fun
  |_=>[]
theorem ae9:Tryz.prog.funcs[169]? = some Tryz.f169:=by kernel_rfl
def au2:FT where
 keep:=[]
 kb:=fun
  |_=>[]
 sd:=fun
  |_=>[]
theorem ae8:Tryz.prog.funcs[170]? = some Tryz.f170:=by kernel_rfl
def t171:FT where
 keep:=[]
 kb:=fun
  |_=>[]
 sd:=fun
  |_=>[]
theorem ae7:Tryz.prog.funcs[171]? = some Tryz.f171:=by kernel_rfl
def t175:FT where
 keep:=[]
 kb:=fun
  |_=>[]
 sd:=fun
  |1=>[(0,true),(1,true),(2,true),(3,true),(4,true),(5,true),(6,true),(7,true),(8,true),(9,true),(10,true),(11,true),(12,true),(13,true),(14,true),(15,true),(16,true),(18,true),(17,false),(19,false),(20,true),(21,true),(22,true)]
  |_=>[]
theorem ae5:Tryz.prog.funcs[175]? = some Tryz.f175:=by kernel_rfl
def t3:FT where
 keep:=[]
 kb:=fun
  |_=>[]
 sd:=fun
  |23=>[(0,true),(1,true),(2,true),(3,true),(4,true),(5,true),(6,true),(7,true),(8,true),(9,true),(10,true)]
  |_=>[]
 sx:=fun
  |21=>some (.look 1 (.look 2 (.look 4 (.look 5 (.look 6 (.look 7 (.look 8 (.look 9 (.eff (.cons 0 (.eff (.cons 3 (.eff (.cons 10 (.eff (.cons 11 (.look 12 (.eff (.cons 13 (.done) (.nil)))) (.nil))) (.nil))) (.cons 10 (.eff (.cons 3 (.eff (.cons 11 (.look 12 (.eff (.cons 13 (.done) (.nil)))) (.nil))) (.nil))) (.nil)))) (.cons 10 (.eff (.cons 0 (.eff (.cons 3 (.eff (.cons 11 (.look 12 (.eff (.cons 13 (.done) (.nil)))) (.nil))) (.nil))) (.nil))) (.nil))))))))))),[7,3,10])
  |_=>none
theorem asj:Tryz.prog.funcs[3]? = some Tryz.f3:=by kernel_rfl
def t17:FT where
 keep:=[]
 kb:=fun
  |_=>[]
 sd:=fun
  |_=>[]
theorem ak0:Tryz.prog.funcs[17]? = some Tryz.f17:=by kernel_rfl
theorem aaE:Tryz.f17.body.isSome=true:=by kernel_rfl
theorem ae4:tabOk t17.sd t17.sx (cO Tryz.f17)=true:=by kernel_rfl
end Go.Proofs.YtfphhabaeggenaaGreatDoor
