/- Joined texts. -/
import Derived.Test.YtijcobeebaceoaaGreatDoorBah
set_option linter.all false
namespace Go.Proofs.YtijcobeebaceoaaGreatDoor
open Go.RowKit
set_option maxRecDepth 10000
abbrev tz(da:Int):List PV:=[nS,iv da,sv eB,nS,nS,nS,iv 0]
theorem Cn.raw{x:Cn}{X:PV}(h:X=nS∧x.args=[]∨X=.rows (x.args.map Ty.cells)):dD [sv x.name,X,iv x.at_]=x.cells∧kH [sv x.name,X,iv x.at_]:=by
 rcases h with⟨rfl,h⟩|rfl
 ·exact⟨by simp[Cn.cells,h],by simp⟩
 ·have hw:kK (bH x.args)=bH x.args:=by simp
  have hn:NS (bH x.args):=by simp
  rw[bH] at hw hn;exact⟨by simp[Cn.cells,hw,bH],by simp[hn]⟩
theorem rq(l:List ByteArray):kK (.rows (l.map fun s=>[sv s]))=.rows (l.map fun s=>[sv s]):=by
 have:kK (strs l)=strs l:=by simp
 rw[strs] at this;exact this
def fl(b:Bool)(p:PV):PV:=if b=true then p else nS
@[simp] theorem sV(p:PV):fl true p=p:=rfl
@[simp] theorem sW(p:PV):fl false p=nS:=rfl
@[simp] def kz:Bool→Bool→Nat→Nat→Nat
 |false,false,h,l=>2*h+l
 |false,true,h,l=>4*h+2+l
 |true,false,h,l=>4*h+l
 |true,true,h,l=>2*h+l
section
variable{L:List Tk}(hW:F3 L)
include hW
section
omit hW
variable(L)(cn:ByteArray)(ca:Int)(dn:ByteArray)(da:Int)(PP CC:List (List PV))(a:Nat)(d:Int)
def qA3(l:List (List PV)):Bool→Bool→Q
 |false,false=>Qs (aW L) (iv a) (iv d) (sv cn) l (iv ca) (sv dn) (iv da)
 |false,true=>Qq (aW L) (iv a) (iv d) (sv cn) l (iv ca) (sv dn) CC (iv da)
 |true,false=>Qr (aW L) (iv a) (iv d) (sv cn) l (iv ca) (sv dn) PP (iv da)
 |true,true=>Qp (aW L) (iv a) (iv d) (sv cn) l (iv ca) (sv dn) PP CC (iv da)
def qA2:Bool→Bool→Q
 |false,false=>Qw (aW L) (iv a) (iv d) (sv cn) (iv ca) (sv dn) (iv da)
 |false,true=>Qu (aW L) (iv a) (iv d) (sv cn) (iv ca) (sv dn) CC (iv da)
 |true,false=>Qv (aW L) (iv a) (iv d) (sv cn) (iv ca) (sv dn) PP (iv da)
 |true,true=>Qt (aW L) (iv a) (iv d) (sv cn) (iv ca) (sv dn) PP CC (iv da)
def qK3:Bool→Q
 |false=>Qy (aW L) (iv a) (iv d) (sv dn) CC (iv da)
 |true=>Qx (aW L) (iv a) (iv d) (sv dn) PP CC (iv da)
def qK2:Bool→Q
 |false=>QA (aW L) (iv a) (iv d) (sv dn) (iv da)
 |true=>Qz (aW L) (iv a) (iv d) (sv dn) PP (iv da)
end
theorem ab2(PP CC:List (List PV))(p c:Bool)(cn:ByteArray)(ca:Int)(dn:ByteArray)(da:Int):∀(m:Nat) (l:List Ty) (a:Nat) (d:Int),0≤d→d≤300→a<L.length→l.length≤a→nY L (qA3 L cn ca dn da PP CC a d (l.map Ty.cells) p c) (cu L m l d a)
  (fun v b z=>a≤b∧v.length≤b∧z=(kz p c 1 1,ps L b d (sv cn :: .rows (v.map Ty.cells)::iv ca::sv dn::fl p (.rows PP)::fl c (.rows CC)::tz da))) (fun e w z=>∃(b:Nat) (d':Int) (T:PV),z=(kz p c 1 0,ps L b d' (sv cn::T::iv ca::sv dn::fl p (.rows PP)::fl c (.rows CC)::(tz da++[iv e,iv w])))):=by
 intro m
 induction m with
 |zero=>intro l a d h0 h1 ha hl;unfold cu;rw[xZ];trivial
 |succ m ih=>
  intro l a d h0 h1 ha hl;refine .of ?_;rw[iG];cases p<;>cases c
  all_goals
   (first|rw[qA3,ad9]|rw[qA3,ad7]|rw[qA3,ad8]|rw[qA3,ad6])
   simp[xk hW ha];refine .st (fun hs=>?_) (fun hs=>?_)
   ·simp[hs]
    refine .callW (s_at hW m a d h0 h1 ha) (fun v b hb hab g=>?_) (fun e w b d' g=>?_)
    ·simp[g]
     have hap:=fun k'=>aN (P:=PG) (d:=.fail) (k:=k') abU (wZ l) (c:=rP v) rfl (by simp) (by have:=hW.len;simp;omega) (by decide)
     simp[hap];have hn:=ih (l++[v]) b d h0 h1 hb (by simp;omega);rw[List.map_append,List.map_cons,List.map_nil,Ty.cells_eq v] at hn
     try simp only[qA3,sV,sW] at hn
     cases hr:cu L m (l++[v]) d b with
     |out=>trivial
     |err e w=>rw[hr] at hn;obtain⟨z,g1,b2,d',T,rfl⟩:=hn;exact⟨_,by simp[g1],b2,d',T,rfl⟩
     |ok v2 b2=>rw[hr] at hn;obtain⟨hb2,z,g1,h5,h6,rfl⟩:=hn;exact⟨hb2,_,by simp[g1],by omega,h6,rfl⟩
    ·exact⟨_,by simp[g],b,d',.rows (l.map Ty.cells),rfl⟩
   ·exact .pure ha (by simp[hs]) ⟨Nat.le_refl _,hl,rfl⟩
theorem Kh(PP CC:List (List PV))(p c:Bool)(cn:ByteArray)(ca:Int)(dn:ByteArray)(da:Int)(m:Nat)(a:Nat)(d:Int)(h0:0≤d)(h1:d≤300)(ha:a<L.length):nY L (qA2 L cn ca dn da PP CC a d p c) (cu L m [] d a)
  (fun v b z=>a≤b∧(v=[]∧z=(kz p c 0 1,ps L b d (sv cn::nS::iv ca::sv dn::fl p (.rows PP)::fl c (.rows CC)::tz da))∨v.length≤b∧z=(kz p c 1 1,ps L b d (sv cn :: .rows (v.map Ty.cells)::iv ca::sv dn::fl p (.rows PP)::fl c (.rows CC)::tz da))))
  (fun e w z=>∃(b:Nat) (d':Int),z=(kz p c 0 0,ps L b d' (sv cn::nS::iv ca::sv dn::fl p (.rows PP)::fl c (.rows CC)::(tz da++[iv e,iv w])))∨∃T,z=(kz p c 1 0,ps L b d' (sv cn::T::iv ca::sv dn::fl p (.rows PP)::fl c (.rows CC)::(tz da++[iv e,iv w])))):=by
 cases m with
 |zero=>unfold cu;rw[xZ];trivial
 |succ m=>
  refine .of ?_;rw[iG];have hZ:=ab2 hW PP CC p c cn ca dn da m;cases p<;>cases c
  all_goals
   simp only[qA3,sV,sW,kz] at hZ
   (first|rw[qA2,aed]|rw[qA2,aeb]|rw[qA2,aec]|rw[qA2,aea])
   simp[xk hW ha];refine .st (fun hs=>?_) (fun hs=>?_)
   ·simp[hs]
    refine .callW (s_at hW m a d h0 h1 ha) (fun v b hb hab g=>?_) (fun e w b d' g=>?_)
    ·simp[g]
     have hn:=hZ [v] b d h0 h1 hb (by simp;omega);rw[List.map_cons,List.map_nil,Ty.cells_eq v] at hn
     try simp only[qA3,sV,sW] at hn
     cases hr:cu L m [v] d b with
     |out=>trivial
     |err e w=>rw[hr] at hn;obtain⟨z,g1,b2,d',T,rfl⟩:=hn;exact⟨_,by simp[g1],b2,d',.inr ⟨T,rfl⟩⟩
     |ok v2 b2=>rw[hr] at hn;obtain⟨hb2,z,g1,h5,h6,rfl⟩:=hn;exact⟨hb2,_,by simp[g1],by omega,.inr ⟨h6,rfl⟩⟩
    ·exact⟨_,by simp[g],b,d',.inl rfl⟩
   ·exact .pure ha (by simp[hs]) ⟨Nat.le_refl _,.inl ⟨rfl,rfl⟩⟩
theorem ag5(PP:List (List PV))(p:Bool)(dn:ByteArray)(da:Int):∀(m:Nat) (l:List Cn) (CC:List (List PV)) (a:Nat) (d:Int),Raw 3 CC (l.map Cn.cells)→l.length≤a→0≤d→d≤300→a<L.length→nY L (qK3 L dn da PP CC a d p) (iV L m l d a)
  (fun v b z=>a≤b∧∃B',Raw 3 B' (v.map Cn.cells)∧z=(0,ps L b d (sv dn::fl p (.rows PP) :: .rows B'::tz da))) (fun e w z=>∃(b:Nat) (d':Int) (T:PV),z=(2,ps L b d' (sv dn::fl p (.rows PP)::T::(tz da++[iv e,iv w])))):=by
 intro m
 induction m with
 |zero=>intro l CC a d hr hl h0 h1 ha;rw[iV];trivial
 |succ m ih=>
  intro l CC a d hr hl h0 h1 ha;refine .of ?_;rw[iV.eq_2];have hA:=Kh hW PP CC p true (ai L a).text (ai L a).at_ dn da m;cases p
  all_goals
   simp only[qA2,sV,sW,kz] at hA
   (first|rw[qK3,aef]|rw[qK3,aee])
   have hLl:=hW.len;refine .takeK (by decide) (fun k2=>?_) (fun k2=>?_)
   ·have hl1:=hW.fin a (by omega)
    simp[-Int.natCast_add,cB hW ha,k2,Tk.cells];refine .bind (hA (a+1) d h0 h1 hl1) (fun tl b z hb g hz=>?_) (fun e w z g hz=>?_)
    ·obtain⟨hab,hz⟩:=hz
     have key:∀(X:PV),(X=nS∧tl=[]∨X=.rows (tl.map Ty.cells))→Raw 3 (CC++[[sv (ai L a).text,X,iv (ai L a).at_]]) ((l++[(⟨(ai L a).text,tl,(ai L a).at_⟩:Cn)]).map Cn.cells):=fun X hX=>by
      have hx:=Cn.raw (x:=⟨(ai L a).text,tl,(ai L a).at_⟩) hX;rw[List.map_append,List.map_cons,List.map_nil];exact hr.app hx.1 rfl hx.2
     rcases hz with⟨rfl,rfl⟩|⟨h5,rfl⟩
     ·have hk:=key nS (.inl ⟨rfl,rfl⟩)
      simp[-Int.natCast_add,g];have hap:=fun k'=>aN (P:=PG) (d:=.fail) (k:=k') agT hr (c:=[sv (ai L a).text,nS,iv (ai L a).at_]) rfl (Cn.raw (x:=⟨(ai L a).text,[],(ai L a).at_⟩) (.inl ⟨rfl,rfl⟩)).2 (by have:=hr.len;simp at this;omega) (by decide)
      simp only[hap];simp[-Int.natCast_add,dH hW hb];refine .may (fun hs=>?_) (fun hs=>?_)
      ·have hl2:=aH hW hs
       simp[-Int.natCast_add,hs];have hn:=ih _ _ (b+1) d hk (by simp;omega) h0 h1 hl2;simp only[List.cons_append,List.nil_append,qK3,sV,sW] at hn;have hn:=hn;cases hr2:iV L m (l++[(⟨(ai L a).text,[],(ai L a).at_⟩:Cn)]) d (b+1) with
       |out=>trivial
       |err e w=>rw[hr2] at hn;obtain⟨z,g1,b2,d',T,rfl⟩:=hn;exact⟨_,by simp[-Int.natCast_add,g1],b2,d',T,rfl⟩
       |ok v2 b2=>rw[hr2] at hn;obtain⟨hb2,z,g1,h6,B',h7,rfl⟩:=hn;exact⟨hb2,_,by simp[-Int.natCast_add,g1],by omega,B',h7,rfl⟩
      ·exact .pure hb (by simp[hs]) ⟨by omega,_,hk,rfl⟩
     ·have hk:=key (.rows (tl.map Ty.cells)) (.inr rfl)
      simp[-Int.natCast_add,g];have hap:=fun k'=>aN (P:=PG) (d:=.fail) (k:=k') agT hr (c:=[sv (ai L a).text,(.rows (tl.map Ty.cells)),iv (ai L a).at_]) rfl (Cn.raw (x:=⟨(ai L a).text,tl,(ai L a).at_⟩) (.inr rfl)).2 (by have:=hr.len;simp at this;omega) (by decide)
      simp only[hap];simp[-Int.natCast_add,dH hW hb];refine .may (fun hs=>?_) (fun hs=>?_)
      ·have hl2:=aH hW hs
       simp[-Int.natCast_add,hs];have hn:=ih _ _ (b+1) d hk (by simp;omega) h0 h1 hl2;simp only[List.cons_append,List.nil_append,qK3,sV,sW] at hn;have hn:=hn;cases hr2:iV L m (l++[(⟨(ai L a).text,tl,(ai L a).at_⟩:Cn)]) d (b+1) with
       |out=>trivial
       |err e w=>rw[hr2] at hn;obtain⟨z,g1,b2,d',T,rfl⟩:=hn;exact⟨_,by simp[-Int.natCast_add,g1],b2,d',T,rfl⟩
       |ok v2 b2=>rw[hr2] at hn;obtain⟨hb2,z,g1,h6,B',h7,rfl⟩:=hn;exact⟨hb2,_,by simp[-Int.natCast_add,g1],by omega,B',h7,rfl⟩
      ·exact .pure hb (by simp[hs]) ⟨by omega,_,hk,rfl⟩
    ·obtain⟨b,d',rfl|⟨T,rfl⟩⟩:=hz
     ·exact⟨_,by simp[-Int.natCast_add,g],b,d',.rows CC,rfl⟩
     ·exact⟨_,by simp[-Int.natCast_add,g],b,d',.rows CC,rfl⟩
   ·exact⟨_,by simp[cB hW ha,k2],a,d,.rows CC,rfl⟩
theorem Po(PP:List (List PV))(p:Bool)(dn:ByteArray)(da:Int)(m:Nat)(a:Nat)(d:Int)(h0:0≤d)(h1:d≤300)(ha:a<L.length):nY L (qK2 L dn da PP a d p) (iV L m [] d a)
  (fun v b z=>a≤b∧∃B',Raw 3 B' (v.map Cn.cells)∧z=(0,ps L b d (sv dn::fl p (.rows PP) :: .rows B'::tz da))) (fun e w z=>∃(b:Nat) (d':Int),z=(1,ps L b d' (sv dn::fl p (.rows PP)::nS::(tz da++[iv e,iv w])))∨∃(T:PV),z=(2,ps L b d' (sv dn::fl p (.rows PP)::T::(tz da++[iv e,iv w])))):=by
 cases m with
 |zero=>rw[iV];trivial
 |succ m=>
  refine .of ?_;rw[iV.eq_2];have hA:=Kh hW PP [] p false (ai L a).text (ai L a).at_ dn da m;have hC:=ag5 hW PP p dn da m;cases p
  all_goals
   simp only[qK3,sV,sW] at hC;simp only[qA2,sV,sW,kz] at hA
   (first|rw[qK2,aeh]|rw[qK2,aeg])
   have hLl:=hW.len;refine .takeK (by decide) (fun k2=>?_) (fun k2=>?_)
   ·have hl1:=hW.fin a (by omega)
    simp[-Int.natCast_add,cB hW ha,k2,Tk.cells];refine .bind (hA (a+1) d h0 h1 hl1) (fun tl b z hb g hz=>?_) (fun e w z g hz=>?_)
    ·obtain⟨hab,hz⟩:=hz
     have key:∀(X:PV),(X=nS∧tl=[]∨X=.rows (tl.map Ty.cells))→Raw 3 ([]++[[sv (ai L a).text,X,iv (ai L a).at_]]) (([]++[(⟨(ai L a).text,tl,(ai L a).at_⟩:Cn)]).map Cn.cells):=fun X hX=>by
      have hx:=Cn.raw (x:=⟨(ai L a).text,tl,(ai L a).at_⟩) hX;rw[List.map_append,List.map_cons,List.map_nil];exact(Raw.nil 3).app hx.1 rfl hx.2
     rcases hz with⟨rfl,rfl⟩|⟨h5,rfl⟩
     ·have hk:=key nS (.inl ⟨rfl,rfl⟩)
      simp[-Int.natCast_add,g];simp[-Int.natCast_add,dH hW hb];refine .may (fun hs=>?_) (fun hs=>?_)
      ·have hl2:=aH hW hs
       simp[-Int.natCast_add,hs];have hn:=hC _ _ (b+1) d hk (by simp) h0 h1 hl2;simp only[List.cons_append,List.nil_append,qK3,sV,sW] at hn;cases hr2:iV L m ([(⟨(ai L a).text,[],(ai L a).at_⟩:Cn)]) d (b+1) with
       |out=>trivial
       |err e w=>rw[hr2] at hn;obtain⟨z,g1,b2,d',T,rfl⟩:=hn;exact⟨_,by simp[-Int.natCast_add,g1],b2,d',.inr ⟨T,rfl⟩⟩
       |ok v2 b2=>rw[hr2] at hn;obtain⟨hb2,z,g1,h6,B',h7,rfl⟩:=hn;exact⟨hb2,_,by simp[-Int.natCast_add,g1],by omega,B',h7,rfl⟩
      ·exact .pure hb (by simp[hs]) ⟨by omega,_,hk,rfl⟩
     ·have hk:=key (.rows (tl.map Ty.cells)) (.inr rfl)
      simp[-Int.natCast_add,g];simp[-Int.natCast_add,dH hW hb];refine .may (fun hs=>?_) (fun hs=>?_)
      ·have hl2:=aH hW hs
       simp[-Int.natCast_add,hs];have hn:=hC _ _ (b+1) d hk (by simp) h0 h1 hl2;simp only[List.cons_append,List.nil_append,qK3,sV,sW] at hn;cases hr2:iV L m ([(⟨(ai L a).text,tl,(ai L a).at_⟩:Cn)]) d (b+1) with
       |out=>trivial
       |err e w=>rw[hr2] at hn;obtain⟨z,g1,b2,d',T,rfl⟩:=hn;exact⟨_,by simp[-Int.natCast_add,g1],b2,d',.inr ⟨T,rfl⟩⟩
       |ok v2 b2=>rw[hr2] at hn;obtain⟨hb2,z,g1,h6,B',h7,rfl⟩:=hn;exact⟨hb2,_,by simp[-Int.natCast_add,g1],by omega,B',h7,rfl⟩
      ·exact .pure hb (by simp[hs]) ⟨by omega,_,hk,rfl⟩
    ·obtain⟨b,d',rfl|⟨T,rfl⟩⟩:=hz
     ·exact⟨_,by simp[-Int.natCast_add,g],b,d',.inl rfl⟩
     ·exact⟨_,by simp[-Int.natCast_add,g],b,d',.inl rfl⟩
   ·exact⟨_,by simp[cB hW ha,k2],a,d,.inl rfl⟩
abbrev pDt(L:List Tk)(a:Nat)(d:Int):Q:=afM (aW L) (iv a) (iv d)
theorem ag3(m:Nat):Pa L (pDt L) dtC (xQ L m):=by
 intro a d h0 h1 ha;refine .weak (alX ev _ _ _) (.of ?_);unfold xQ;rw[aqs];refine .takeK (by decide) (fun k2=>?_) (fun k2=>?_)
 ·have hl1:=hW.fin a (by omega)
  simp[-Int.natCast_add,cB hW ha,k2,Tk.cells];refine .bind (ab1 hW (ai L a).text (ai L a).at_ m (a+1) d hl1) (fun ps b z hb g hz=>?_) (fun e w z g hz=>hz.elim);obtain⟨hab,hlp,hz⟩:=hz;rcases hz with⟨rfl,rfl⟩|rfl
  ·simp[-Int.natCast_add,g]
   refine .take (by decide) (fun he=>?_) (fun he=>?_)
   ·have hl2:=aH hW he
    simp[-Int.natCast_add,aO hW hb,he,Tk.cells];refine .bind (Po hW [] false (ai L a).text (ai L a).at_ m (b+1) d h0 h1 hl2) (fun cs b2 z hb2 g2 hz=>?_) (fun e w z g2 hz=>?_)
    all_goals simp only[qK2] at g2
    ·obtain⟨hab2,B,hB,rfl⟩:=hz
     simp[-Int.natCast_add,g2];simp[-Int.natCast_add,dH hW hb2];refine .may (fun hv=>?_) (fun hv=>?_)
     ·have hl3:=aH hW hv
      simp[-Int.natCast_add,hv];refine .take (by decide) (fun ho=>?_) (fun ho=>?_)
      ·have hl4:=aH hW ho
       simp[-Int.natCast_add,aO hW hl3,ho,Tk.cells];refine .bind (Gq hW m (b2+1+1) d hl4) (fun ds b3 z hb3 g3 hz=>?_) (fun e w z g3 hz=>?_)
       ·obtain⟨hab3,hl5,rfl⟩:=hz
        have gw:=F8 g3;simp[-Int.natCast_add,g3,gw];refine .take (by decide) (fun hc=>?_) (fun hc=>?_)
        ·exact .pure (aH hW hc) (by simp[-Int.natCast_add,aO hW hb3,hc,Tk.cells]) (.of (m:=[0,1,0,0,0,0,0,0,0]) (k:=4) (ys:=[sv (ai L a).text,nS,.rows B,.rows (ds.map fun s=>[sv s]),iv (ai L a).at_]) (by omega) rfl (by simp[hB.wd,rq,strs,qb]))
        ·exact⟨_,by simp[-Int.natCast_add,aO hW hb3,hc],.of (m:=[0,1,0,0,0,0,0,0,0]) (b:=b3) (d:=d) (k:=1) rfl⟩
       ·obtain⟨b3,rfl⟩:=hz
        have gw:=BG g3;exact⟨_,by simp[-Int.natCast_add,g3,gw],.of (m:=[0,1,0,0,0,0,0,0,0]) (b:=b3) (d:=d) (k:=1) rfl⟩
      ·exact⟨_,by simp[-Int.natCast_add,aO hW hl3,ho],.of (m:=[0,1,0,0,0,0,0,0,0]) (b:=b2+1) (d:=d) (k:=1) rfl⟩
     ·exact .pure hb2 (by simp[-Int.natCast_add,hv]) (.of (m:=[0,1,0,0,0,0,0,0,0]) (k:=3) (ys:=[sv (ai L a).text,nS,.rows B,nS,iv (ai L a).at_]) (by omega) rfl (by simp[hB.wd,rq,strs,qb]))
    ·obtain⟨b2,d',rfl|⟨T,rfl⟩⟩:=hz
     ·exact⟨_,by simp[-Int.natCast_add,g2],.of (m:=[0,1,0,0,0,0,0,0,0]) (b:=b2) (d:=d') (k:=1) rfl⟩
     ·exact⟨_,by simp[-Int.natCast_add,g2],.of (m:=[0,1,0,0,0,0,0,0,0]) (b:=b2) (d:=d') (k:=1) rfl⟩
   ·exact⟨_,by simp[-Int.natCast_add,aO hW hb,he],.of (m:=[0,1,0,0,0,0,0,0,0]) (b:=b) (d:=d) (k:=1) rfl⟩
  ·simp[-Int.natCast_add,g]
   refine .take (by decide) (fun he=>?_) (fun he=>?_)
   ·have hl2:=aH hW he
    simp[-Int.natCast_add,aO hW hb,he,Tk.cells];refine .bind (Po hW (ps.map fun s=>[sv s]) true (ai L a).text (ai L a).at_ m (b+1) d h0 h1 hl2) (fun cs b2 z hb2 g2 hz=>?_) (fun e w z g2 hz=>?_)
    all_goals simp only[qK2] at g2
    ·obtain⟨hab2,B,hB,rfl⟩:=hz
     simp[-Int.natCast_add,g2];simp[-Int.natCast_add,dH hW hb2];refine .may (fun hv=>?_) (fun hv=>?_)
     ·have hl3:=aH hW hv
      simp[-Int.natCast_add,hv];refine .take (by decide) (fun ho=>?_) (fun ho=>?_)
      ·have hl4:=aH hW ho
       simp[-Int.natCast_add,aO hW hl3,ho,Tk.cells];refine .bind (Gq hW m (b2+1+1) d hl4) (fun ds b3 z hb3 g3 hz=>?_) (fun e w z g3 hz=>?_)
       ·obtain⟨hab3,hl5,rfl⟩:=hz
        have gw:=F8 g3;simp[-Int.natCast_add,g3,gw];refine .take (by decide) (fun hc=>?_) (fun hc=>?_)
        ·exact .pure (aH hW hc) (by simp[-Int.natCast_add,aO hW hb3,hc,Tk.cells]) (.of (m:=[0,1,0,0,0,0,0,0,0]) (k:=8) (ys:=[sv (ai L a).text,(.rows (ps.map fun s=>[sv s])),.rows B,.rows (ds.map fun s=>[sv s]),iv (ai L a).at_]) (by omega) rfl (by simp[hB.wd,rq,strs,qb]))
        ·exact⟨_,by simp[-Int.natCast_add,aO hW hb3,hc],.of (m:=[0,1,0,0,0,0,0,0,0]) (b:=b3) (d:=d) (k:=1) rfl⟩
       ·obtain⟨b3,rfl⟩:=hz
        have gw:=BG g3;exact⟨_,by simp[-Int.natCast_add,g3,gw],.of (m:=[0,1,0,0,0,0,0,0,0]) (b:=b3) (d:=d) (k:=1) rfl⟩
      ·exact⟨_,by simp[-Int.natCast_add,aO hW hl3,ho],.of (m:=[0,1,0,0,0,0,0,0,0]) (b:=b2+1) (d:=d) (k:=1) rfl⟩
     ·exact .pure hb2 (by simp[-Int.natCast_add,hv]) (.of (m:=[0,1,0,0,0,0,0,0,0]) (k:=7) (ys:=[sv (ai L a).text,(.rows (ps.map fun s=>[sv s])),.rows B,nS,iv (ai L a).at_]) (by omega) rfl (by simp[hB.wd,rq,strs,qb]))
    ·obtain⟨b2,d',rfl|⟨T,rfl⟩⟩:=hz
     ·exact⟨_,by simp[-Int.natCast_add,g2],.of (m:=[0,1,0,0,0,0,0,0,0]) (b:=b2) (d:=d') (k:=1) rfl⟩
     ·exact⟨_,by simp[-Int.natCast_add,g2],.of (m:=[0,1,0,0,0,0,0,0,0]) (b:=b2) (d:=d') (k:=1) rfl⟩
   ·exact⟨_,by simp[-Int.natCast_add,aO hW hb,he],.of (m:=[0,1,0,0,0,0,0,0,0]) (b:=b) (d:=d) (k:=1) rfl⟩
 ·exact⟨_,by simp[cB hW ha,k2],.of (m:=[0,1,0,0,0,0,0,0,0]) (b:=a) (d:=d) (k:=1) rfl⟩
end
set_option maxRecDepth 10000
abbrev cz(da:Int):List PV:=[iv da,sv eB,sv eB,nS,nS,nS,iv 0]
def okM:Bool→Bool→Nat
 |false,false=>0
 |false,true=>4
 |true,false=>6
 |true,true=>7
def erM:Bool→Bool→Nat
 |false,false=>2
 |false,true=>1
 |true,false=>3
 |true,true=>5
@[simp] theorem apM:okM false false=0:=rfl
@[simp] theorem apL:okM false true=4:=rfl
@[simp] theorem apK:okM true false=6:=rfl
@[simp] theorem apJ:okM true true=7:=rfl
@[simp] theorem aq9:erM false false=2:=rfl
@[simp] theorem aq8:erM false true=1:=rfl
@[simp] theorem aq7:erM true false=3:=rfl
@[simp] theorem aq6:erM true true=5:=rfl
theorem zJ(l:List Md):kK (.rows (l.map Md.cells))=.rows (l.map Md.cells):=by
 have:kK (mJ l)=mJ l:=by simp
 rw[mJ] at this;exact this
theorem iq(l:List Bd):kK (.rows (l.map Bd.cells))=.rows (l.map Bd.cells):=by
 have:kK (bn l)=bn l:=by simp
 rw[bn] at this;exact this
def okI(L:List Tk)(nm vr:ByteArray)(at_:Int)(SC:PV)(a:Nat)(d:Int)(v:List Md×List Bd)(b:Nat)(z:Rs):Prop:=a≤b∧∃bm bd:Bool,(bm=false→v.1=[])∧(bd=false→v.2=[])∧z=(okM bm bd,ps L b d (sv nm::sv vr::SC::fl bm (.rows (v.1.map Md.cells))::fl bd (.rows (v.2.map Bd.cells))::cz at_))
def erI(L:List Tk)(nm vr:ByteArray)(at_:Int)(SC:PV)(e w:Int)(z:Rs):Prop:=∃(b:Nat) (d':Int) (bm bd:Bool) (T U:PV),z=(erM bm bd,ps L b d' (sv nm::sv vr::SC::fl bm T::fl bd U::(cz at_++[iv e,iv w])))
section
variable{L:List Tk}(hW:F3 L)
include hW
omit hW in
def w9(L:List Tk)(a:Nat)(d:Int)(nm vr:ByteArray)(at_:Int)(SS:List (List PV)):Bool→Bool→Bool→List Md→List Bd→Q
 |false,false,false,_,_=>Qo (aW L) (iv a) (iv d) (sv nm) (sv vr) (iv at_)
 |false,false,true,_,ds=>Qm (aW L) (iv a) (iv d) (sv nm) (sv vr) (ds.map Bd.cells) (iv at_)
 |false,true,false,ms,_=>Ql (aW L) (iv a) (iv d) (sv nm) (sv vr) (ms.map Md.cells) (iv at_)
 |false,true,true,ms,ds=>Qi (aW L) (iv a) (iv d) (sv nm) (sv vr) (ms.map Md.cells) (ds.map Bd.cells) (iv at_)
 |true,false,false,_,_=>Qn (aW L) (iv a) (iv d) (sv nm) (sv vr) SS (iv at_)
 |true,false,true,_,ds=>Qk (aW L) (iv a) (iv d) (sv nm) (sv vr) SS (ds.map Bd.cells) (iv at_)
 |true,true,false,ms,_=>Qj (aW L) (iv a) (iv d) (sv nm) (sv vr) SS (ms.map Md.cells) (iv at_)
 |true,true,true,ms,ds=>Qh (aW L) (iv a) (iv d) (sv nm) (sv vr) SS (ms.map Md.cells) (ds.map Bd.cells) (iv at_)
theorem Pm(nm vr:ByteArray)(at_:Int)(SS:List (List PV))(sb:Bool):∀(m:Nat) (bm bd:Bool) (ms:List Md) (ds:List Bd) (a:Nat) (d:Int),(bm=false→ms=[])→(bd=false→ds=[])→ms.length+ds.length≤a→0≤d→d≤300→a<L.length→nY L (w9 L a d nm vr at_ SS sb bm bd ms ds) (gY L m ms ds d a)
  (okI L nm vr at_ (fl sb (.rows SS)) a d) (erI L nm vr at_ (fl sb (.rows SS))):=by
 intro m
 induction m with
 |zero=>intro bm bd ms ds a d h1 h2 hl h0 h3 ha;rw[gY];trivial
 |succ m ih=>
  intro bm bd ms ds a d hm hd0 hl h0 h1 ha;have hLl:=hW.len;have jB:=fun(v:Bd) (b:Nat) (hab:a<b) (hb:b<L.length)=>ih bm true ms (ds++[v]) b d hm (fun h=>by cases h) (by simp only[List.length_append,List.length_cons,List.length_nil];omega) h0 h1 hb
  have jM:=fun(v:Md) (b:Nat) (hab:a<b) (hb:b<L.length)=>ih true bd (ms++[v]) ds b d (fun h=>by cases h) hd0 (by simp only[List.length_append,List.length_cons,List.length_nil];omega) h0 h1 hb
  have kO:∀b,a≤b→okI L nm vr at_ (fl sb (.rows SS)) a d (ms,ds) b (okM bm bd,ps L b d (sv nm::sv vr::fl sb (.rows SS)::fl bm (.rows (ms.map Md.cells))::fl bd (.rows (ds.map Bd.cells))::cz at_)):=fun b hb=>⟨hb,bm,bd,hm,hd0,rfl⟩
  have kE:=fun(b:Nat) (d' e w:Int)=>(⟨b,d',bm,bd,.rows (ms.map Md.cells),.rows (ds.map Bd.cells),rfl⟩:erI L nm vr at_ (fl sb (.rows SS)) e w (erM bm bd,ps L b d' (sv nm::sv vr::fl sb (.rows SS)::fl bm (.rows (ms.map Md.cells))::fl bd (.rows (ds.map Bd.cells))::(cz at_++[iv e,iv w]))))
  have kB:=fun(v:Bd) (b:Nat) (d' e w:Int)=>(⟨b,d',bm,true,.rows (ms.map Md.cells),.rows (ds.map Bd.cells++[iP v]),rfl⟩:erI L nm vr at_ (fl sb (.rows SS)) e w (erM bm true,ps L b d' (sv nm::sv vr::fl sb (.rows SS)::fl bm (.rows (ms.map Md.cells))::fl true (.rows (ds.map Bd.cells++[iP v]))::(cz at_++[iv e,iv w]))))
  have kM:=fun(c:List PV) (b:Nat) (d' e w:Int)=>(⟨b,d',true,bd,.rows (ms.map Md.cells++[c]),.rows (ds.map Bd.cells),rfl⟩:erI L nm vr at_ (fl sb (.rows SS)) e w (erM true bd,ps L b d' (sv nm::sv vr::fl sb (.rows SS)::fl true (.rows (ms.map Md.cells++[c]))::fl bd (.rows (ds.map Bd.cells))::(cz at_++[iv e,iv w]))))
  have aB:=fun(v:Bd) k'=>aN (P:=PG) (d:=.fail) (k:=k') wS (kR ds) (c:=iP v) rfl (by simp) (by simp;omega) (by decide)
  have aM:=fun(t:Tk) (v:Ty) k'=>aN (P:=PG) (d:=.fail) (k:=k') ajJ (Pq ms) (c:=[sv t.text,iv v.kind,sv v.name,iv v.n,bH v.kids,iv t.at_]) rfl (by simp) (by simp;omega) (by decide)
  refine .of ?_;cases sb<;>cases bm<;>cases bd
  all_goals
   (first|(obtain rfl:=hm rfl)|skip)
   (first|(obtain rfl:=hd0 rfl)|skip)
   simp only[w9,List.map_append,List.map_cons,List.map_nil,List.nil_append,Md.cells,Bd.cells_eq,sV,sW,ps,List.cons_append] at jB jM kO kE kB kM aB aM;rw[gY.eq_2]
   (first
    |rw[w9,ad5]
    |rw[w9,ad3]
    |rw[w9,ad2]
    |rw[w9,adY]
    |rw[w9,ad4]
    |rw[w9,ad1]
    |rw[w9,adZ]
    |rw[w9,adX]
    )
   simp[-Int.natCast_add,dH hW ha];refine .may (fun he=>?_) (fun he=>?_)
   ·exact .pure (aH hW he) (by simp[-Int.natCast_add,he]) (kO _ (by omega))
   ·simp[-Int.natCast_add,he]
    simp[-Int.natCast_add,dH hW ha];refine .may (fun hd=>?_) (fun hd=>?_)
    ·have hl1:=aH hW hd
     simp[-Int.natCast_add,hd];refine .callW (ab6 hW m (a+1) d h0 h1 hl1) (fun v b hb hab g=>?_) (fun e w b d' g=>?_)
     ·simp[-Int.natCast_add,g]
      (first|simp only[aB v]|skip)
      refine .take (by decide) (fun hs=>?_) (fun hs=>?_)
      ·have hl2:=aH hW hs
       simp[-Int.natCast_add,aO hW hb,hs,Tk.cells];have hn:=jB v (b+1) (by omega) hl2;revert hn;generalize gY L m _ _ d (b+1)=r;intro hn;cases r with
       |out=>trivial
       |err e w=>obtain⟨z,g1,hz⟩:=hn;exact⟨z,by obtain⟨_,_⟩:=z;simp[-Int.natCast_add,g1],hz⟩
       |ok v2 b2=>obtain⟨hb2,z,g1,h5,hz⟩:=hn;exact⟨hb2,z,by obtain⟨_,_⟩:=z;simp[-Int.natCast_add,g1],by omega,hz⟩
      ·exact⟨_,by simp[-Int.natCast_add,aO hW hb,hs],kB v b d _ _⟩
     ·exact⟨_,by simp[-Int.natCast_add,g],kE b d' _ _⟩
    ·simp[-Int.natCast_add,hd]
     refine .bind (WC hW a d ha) (fun t b z hb g hz=>?_) (fun e w z g hz=>?_)
     ·obtain⟨hab,rfl⟩:=hz
      simp[-Int.natCast_add,g,Tk.cells];refine .take (by decide) (fun hc=>?_) (fun hc=>?_)
      ·have hl3:=aH hW hc
       simp[-Int.natCast_add,aO hW hb,hc,Tk.cells];refine .callW (ajP hW m (b+1) d h0 h1 hl3) (fun v b3 hb3 hab3 g3=>?_) (fun e w b3 d' g3=>?_)
       ·simp[-Int.natCast_add,g3]
        (first|simp only[aM t v]|skip)
        refine .take (by decide) (fun hs=>?_) (fun hs=>?_)
        ·have hl2:=aH hW hs
         simp[-Int.natCast_add,aO hW hb3,hs,Tk.cells];have hn:=jM (⟨t.text,v,t.at_⟩:Md) (b3+1) (by omega) hl2;revert hn;generalize gY L m _ _ d (b3+1)=r;intro hn;cases r with
         |out=>trivial
         |err e w=>obtain⟨z,g1,hz⟩:=hn;exact⟨z,by obtain⟨_,_⟩:=z;simp[-Int.natCast_add,g1],hz⟩
         |ok v2 b2=>obtain⟨hb2,z,g1,h5,hz⟩:=hn;exact⟨hb2,z,by obtain⟨_,_⟩:=z;simp[-Int.natCast_add,g1],by omega,hz⟩
        ·exact⟨_,by simp[-Int.natCast_add,aO hW hb3,hs],kM [sv t.text,iv v.kind,sv v.name,iv v.n,bH v.kids,iv t.at_] b3 d _ _⟩
       ·exact⟨_,by simp[-Int.natCast_add,g3],kE b3 d' _ _⟩
      ·exact⟨_,by simp[-Int.natCast_add,aO hW hb,hc],kE b d _ _⟩
     ·obtain⟨b,rfl⟩:=hz
      exact⟨_,by simp[-Int.natCast_add,g],kE b d _ _⟩
abbrev pCl(L:List Tk)(a:Nat)(d:Int):Q:=afL (aW L) (iv a) (iv d)
theorem ab3(m:Nat):Pa L (pCl L) OC (nV L m):=by
 intro a d h0 h1 ha;refine .weak (alW ev _ _ _) (.of ?_);unfold nV;rw[aqr];refine .takeK (by decide) (fun k2=>?_) (fun k2=>?_)
 ·have hl1:=hW.fin a (by omega)
  simp[-Int.natCast_add,cB hW ha,k2,Tk.cells];refine .takeK (by decide) (fun k1=>?_) (fun k1=>?_)
  ·have hl2:=hW.fin (a+1) (by omega)
   simp[-Int.natCast_add,cB hW hl1,k1,Tk.cells];simp[-Int.natCast_add,dH hW hl2];unfold TD;cases hf:lF L wV (a+1+1) with
   |false=>
    simp[-Int.natCast_add,hf];have e0:ak (dP L wV (jR L m) (aS [])) (fun sup=>ak (aV L 6 mH) fun _=>ak (gY L m [] []) fun r=>aS (⟨(ai L a).text,(ai L (a+1)).text,sup,r.1,r.2,(ai L a).at_⟩:Cl)) d (a+1+1)=ak (aV L 6 mH) (fun _=>ak (gY L m [] []) fun r=>aS (⟨(ai L a).text,(ai L (a+1)).text,[],r.1,r.2,(ai L a).at_⟩:Cl)) d (a+1+1):=by
     conv=>lhs;unfold ak dP
     rw[hf];rfl
    rw[e0];refine .take (by decide) (fun hw=>?_) (fun hw=>?_)
    ·have hl4:=aH hW hw
     simp[-Int.natCast_add,aO hW hl2,hw,Tk.cells];have hn:=Pm hW (ai L a).text (ai L (a+1)).text (ai L a).at_ [] false m false false [] [] ((a+1+1)+1) d (fun _=>rfl) (fun _=>rfl) (by simp) h0 h1 hl4;refine .bind hn (fun r b z hb g hz=>?_) (fun e w z g hz=>?_)
     ·obtain⟨hab,bm,bd,hx,hy,rfl⟩:=hz
      unfold w9 at g;cases bm<;>cases bd
      ·exact .pure hb (by simp[-Int.natCast_add,g]) (.of (m:=[0,0,0,0,1,0,0,0,0]) (k:=0) (ys:=[sv (ai L a).text,sv (ai L (a+1)).text,nS,nS,nS,iv (ai L a).at_]) (by omega) rfl (by simp[hx rfl,hy rfl,rq,zJ,iq,strs,mJ,bn]))
      ·exact .pure hb (by simp[-Int.natCast_add,g]) (.of (m:=[0,0,0,0,1,0,0,0,0]) (k:=1) (ys:=[sv (ai L a).text,sv (ai L (a+1)).text,nS,nS,.rows (r.2.map Bd.cells),iv (ai L a).at_]) (by omega) rfl (by simp[hx rfl,rq,zJ,iq,strs,mJ,bn]))
      ·exact .pure hb (by simp[-Int.natCast_add,g]) (.of (m:=[0,0,0,0,1,0,0,0,0]) (k:=2) (ys:=[sv (ai L a).text,sv (ai L (a+1)).text,nS,.rows (r.1.map Md.cells),nS,iv (ai L a).at_]) (by omega) rfl (by simp[hy rfl,rq,zJ,iq,strs,mJ,bn]))
      ·exact .pure hb (by simp[-Int.natCast_add,g]) (.of (m:=[0,0,0,0,1,0,0,0,0]) (k:=3) (ys:=[sv (ai L a).text,sv (ai L (a+1)).text,nS,.rows (r.1.map Md.cells),.rows (r.2.map Bd.cells),iv (ai L a).at_]) (by omega) rfl (by simp[rq,zJ,iq,strs,mJ,bn]))
     ·obtain⟨b,d',bm,bd,T,U,rfl⟩:=hz
      unfold w9 at g;cases bm<;>cases bd
      all_goals exact⟨_,by simp[-Int.natCast_add,g],.of (m:=[0,0,0,0,1,0,0,0,0]) (b:=b) (d:=d') (k:=4) rfl⟩
    ·exact⟨_,by simp[-Int.natCast_add,aO hW hl2,hw],.of (m:=[0,0,0,0,1,0,0,0,0]) (b:=(a+1+1)) (d:=d) (k:=4) rfl⟩
   |true=>
    have hl3:=aH hW hf;simp[-Int.natCast_add,hf];have e0:ak (dP L wV (jR L m) (aS [])) (fun sup=>ak (aV L 6 mH) fun _=>ak (gY L m [] []) fun r=>aS (⟨(ai L a).text,(ai L (a+1)).text,sup,r.1,r.2,(ai L a).at_⟩:Cl)) d (a+1+1)=ak (jR L m) (fun sup=>ak (aV L 6 mH) fun _=>ak (gY L m [] []) fun r=>aS (⟨(ai L a).text,(ai L (a+1)).text,sup,r.1,r.2,(ai L a).at_⟩:Cl)) d (a+1+1+1):=by
     conv=>lhs;unfold ak dP
     rw[hf];rfl
    rw[e0];refine .bind (Gq hW m (a+1+1+1) d hl3) (fun sup b3 z hb3 g3 hz=>?_) (fun e w z g3 hz=>?_)
    ·obtain⟨hab3,hl5,rfl⟩:=hz
     have gw:=F8 g3;simp[-Int.natCast_add,g3,gw];refine .take (by decide) (fun hw=>?_) (fun hw=>?_)
     ·have hl4:=aH hW hw
      simp[-Int.natCast_add,aO hW hb3,hw,Tk.cells];have hn:=Pm hW (ai L a).text (ai L (a+1)).text (ai L a).at_ (sup.map fun s=>[sv s]) true m false false [] [] (b3+1) d (fun _=>rfl) (fun _=>rfl) (by simp) h0 h1 hl4;refine .bind hn (fun r b z hb g hz=>?_) (fun e w z g hz=>?_)
      ·obtain⟨hab,bm,bd,hx,hy,rfl⟩:=hz
       unfold w9 at g;cases bm<;>cases bd
       ·exact .pure hb (by simp[-Int.natCast_add,g]) (.of (m:=[0,0,0,0,1,0,0,0,0]) (k:=5) (ys:=[sv (ai L a).text,sv (ai L (a+1)).text,(.rows (sup.map fun s=>[sv s])),nS,nS,iv (ai L a).at_]) (by omega) rfl (by simp[hx rfl,hy rfl,rq,zJ,iq,strs,mJ,bn]))
       ·exact .pure hb (by simp[-Int.natCast_add,g]) (.of (m:=[0,0,0,0,1,0,0,0,0]) (k:=6) (ys:=[sv (ai L a).text,sv (ai L (a+1)).text,(.rows (sup.map fun s=>[sv s])),nS,.rows (r.2.map Bd.cells),iv (ai L a).at_]) (by omega) rfl (by simp[hx rfl,rq,zJ,iq,strs,mJ,bn]))
       ·exact .pure hb (by simp[-Int.natCast_add,g]) (.of (m:=[0,0,0,0,1,0,0,0,0]) (k:=7) (ys:=[sv (ai L a).text,sv (ai L (a+1)).text,(.rows (sup.map fun s=>[sv s])),.rows (r.1.map Md.cells),nS,iv (ai L a).at_]) (by omega) rfl (by simp[hy rfl,rq,zJ,iq,strs,mJ,bn]))
       ·exact .pure hb (by simp[-Int.natCast_add,g]) (.of (m:=[0,0,0,0,1,0,0,0,0]) (k:=8) (ys:=[sv (ai L a).text,sv (ai L (a+1)).text,(.rows (sup.map fun s=>[sv s])),.rows (r.1.map Md.cells),.rows (r.2.map Bd.cells),iv (ai L a).at_]) (by omega) rfl (by simp[rq,zJ,iq,strs,mJ,bn]))
      ·obtain⟨b,d',bm,bd,T,U,rfl⟩:=hz
       unfold w9 at g;cases bm<;>cases bd
       all_goals exact⟨_,by simp[-Int.natCast_add,g],.of (m:=[0,0,0,0,1,0,0,0,0]) (b:=b) (d:=d') (k:=4) rfl⟩
     ·exact⟨_,by simp[-Int.natCast_add,aO hW hb3,hw],.of (m:=[0,0,0,0,1,0,0,0,0]) (b:=b3) (d:=d) (k:=4) rfl⟩
    ·obtain⟨b3,rfl⟩:=hz
     have gw:=BG g3;exact⟨_,by simp[-Int.natCast_add,g3,gw],.of (m:=[0,0,0,0,1,0,0,0,0]) (b:=b3) (d:=d) (k:=4) rfl⟩
  ·exact⟨_,by simp[-Int.natCast_add,cB hW hl1,k1],.of (m:=[0,0,0,0,1,0,0,0,0]) (b:=a+1) (d:=d) (k:=4) rfl⟩
 ·exact⟨_,by simp[cB hW ha,k2],.of (m:=[0,0,0,0,1,0,0,0,0]) (b:=a) (d:=d) (k:=4) rfl⟩
end
set_option maxRecDepth 10000
abbrev iz(da:Int):List PV:=[iv da,sv eB,iv 0,sv eB,iv 0,nS,nS,nS,iv 0]
def Vv(c v:ByteArray):Pd:=⟨c,.mk 1 v 0 []⟩
theorem RY(c v:ByteArray):dD [sv c,iv 1,sv v,iv 0,nS]=(Vv c v).cells∧kH [sv c,iv 1,sv v,iv 0,nS]:=⟨by simp[Pd.cells,Vv,bH],by simp⟩
abbrev ih5(nm:ByteArray)(h:Ty):List PV:=[sv nm,iv h.kind,sv h.name,iv h.n,bH h.kids]
section
variable{L:List Tk}(hW:F3 L)
include hW
theorem ajV(nm:ByteArray)(h:Ty)(at_:Int):∀(m:Nat) (l:List Pd) (CC:List (List PV)) (a:Nat) (d:Int),Raw 5 CC (l.map Pd.cells)→l.length≤a→0≤d→d≤300→a<L.length→nY L (Qf (aW L) (iv a) (iv d) (sv nm) (iv h.kind) (sv h.name) (iv h.n) (bH h.kids) CC (iv at_)) (nT L m l d a)
  (fun v b z=>a≤b∧∃B',Raw 5 B' (v.map Pd.cells)∧z=(0,ps L b d (ih5 nm h ++ .rows B'::nS::iz at_))) (fun e w z=>∃(b:Nat) (T:PV),z=(2,ps L b d (ih5 nm h++T::nS::(iz at_++[iv e,iv w])))):=by
 intro m
 induction m with
 |zero=>intro l CC a d hr hl h0 h1 ha;rw[nT];trivial
 |succ m ih=>
  intro l CC a d hr hl h0 h1 ha;refine .of ?_;rw[nT.eq_2,adV];have hLl:=hW.len;refine .takeK (by decide) (fun k2=>?_) (fun k2=>?_)
  ·have hl1:=hW.fin a (by omega)
   simp[-Int.natCast_add,cB hW ha,k2,Tk.cells];refine .takeK (by decide) (fun k1=>?_) (fun k1=>?_)
   ·have hl2:=hW.fin (a+1) (by omega)
    have hx:=RY (ai L a).text (ai L (a+1)).text;have hk:Raw 5 (CC++[[sv (ai L a).text,iv 1,sv (ai L (a+1)).text,iv 0,nS]]) ((l++[Vv (ai L a).text (ai L (a+1)).text]).map Pd.cells):=by
     rw[List.map_append,List.map_cons,List.map_nil];exact hr.app hx.1 rfl hx.2
    simp[-Int.natCast_add,cB hW hl1,k1,Tk.cells];have hap:=fun k'=>aN (P:=PG) (d:=.fail) (k:=k') ajI hr (c:=[sv (ai L a).text,iv 1,sv (ai L (a+1)).text,iv 0,nS]) rfl hx.2 (by have:=hr.len;simp at this;omega) (by decide)
    simp only[hap];simp[-Int.natCast_add,dH hW hl2];refine .may (fun hs=>?_) (fun hs=>?_)
    ·have hl3:=aH hW hs
     simp[-Int.natCast_add,hs];have hn:=ih _ _ (a+1+1+1) d hk (by simp;omega) h0 h1 hl3;simp only[List.cons_append,List.nil_append] at hn;cases hr2:nT L m (l++[Vv (ai L a).text (ai L (a+1)).text]) d (a+1+1+1) with
     |out=>have hr2:=hr2;unfold Vv at hr2;rw[hr2];trivial
     |err e w=>rw[hr2] at hn;unfold Vv at hr2;rw[hr2];obtain⟨z,g1,b2,T,rfl⟩:=hn;exact⟨_,by simp[-Int.natCast_add,g1],b2,T,rfl⟩
     |ok v2 b2=>rw[hr2] at hn;unfold Vv at hr2;rw[hr2];obtain⟨hb2,z,g1,h6,B',h7,rfl⟩:=hn;exact⟨hb2,_,by simp[-Int.natCast_add,g1],by omega,B',h7,rfl⟩
    ·exact .pure hl2 (by simp[-Int.natCast_add,hs]) ⟨by omega,_,hk,rfl⟩
   ·exact⟨_,by simp[-Int.natCast_add,cB hW hl1,k1],a+1,.rows CC,rfl⟩
  ·exact⟨_,by simp[cB hW ha,k2],a,.rows CC,rfl⟩
theorem ag4(nm:ByteArray)(h:Ty)(at_:Int)(m:Nat)(a:Nat)(d:Int)(h0:0≤d)(h1:d≤300)(ha:a<L.length):nY L (Qg (aW L) (iv a) (iv d) (sv nm) (iv h.kind) (sv h.name) (iv h.n) (bH h.kids) (iv at_)) (nT L m [] d a)
  (fun v b z=>a≤b∧∃B',Raw 5 B' (v.map Pd.cells)∧z=(0,ps L b d (ih5 nm h ++ .rows B'::nS::iz at_))) (fun e w z=>∃(b:Nat),z=(1,ps L b d (ih5 nm h++nS::nS::(iz at_++[iv e,iv w])))∨∃(T:PV),z=(2,ps L b d (ih5 nm h++T::nS::(iz at_++[iv e,iv w])))):=by
 cases m with
 |zero=>rw[nT];trivial
 |succ m=>
  refine .of ?_;rw[nT.eq_2,adW];have hLl:=hW.len;refine .takeK (by decide) (fun k2=>?_) (fun k2=>?_)
  ·have hl1:=hW.fin a (by omega)
   simp[-Int.natCast_add,cB hW ha,k2,Tk.cells];refine .takeK (by decide) (fun k1=>?_) (fun k1=>?_)
   ·have hl2:=hW.fin (a+1) (by omega)
    have hx:=RY (ai L a).text (ai L (a+1)).text;have hk:Raw 5 ([]++[[sv (ai L a).text,iv 1,sv (ai L (a+1)).text,iv 0,nS]]) (([]++[Vv (ai L a).text (ai L (a+1)).text]).map Pd.cells):=by
     rw[List.map_append,List.map_cons,List.map_nil];exact(Raw.nil 5).app hx.1 rfl hx.2
    simp[-Int.natCast_add,cB hW hl1,k1,Tk.cells];simp[-Int.natCast_add,dH hW hl2];refine .may (fun hs=>?_) (fun hs=>?_)
    ·have hl3:=aH hW hs
     simp[-Int.natCast_add,hs];have hn:=ajV hW nm h at_ m _ _ (a+1+1+1) d hk (by simp) h0 h1 hl3;simp only[List.cons_append,List.nil_append] at hn;cases hr2:nT L m [Vv (ai L a).text (ai L (a+1)).text] d (a+1+1+1) with
     |out=>have hr2:=hr2;unfold Vv at hr2;rw[hr2];trivial
     |err e w=>rw[hr2] at hn;unfold Vv at hr2;rw[hr2];obtain⟨z,g1,b2,T,rfl⟩:=hn;exact⟨_,by simp[-Int.natCast_add,g1],b2,.inr ⟨T,rfl⟩⟩
     |ok v2 b2=>rw[hr2] at hn;unfold Vv at hr2;rw[hr2];obtain⟨hb2,z,g1,h6,B',h7,rfl⟩:=hn;exact⟨hb2,_,by simp[-Int.natCast_add,g1],by omega,B',h7,rfl⟩
    ·exact .pure hl2 (by simp[-Int.natCast_add,hs]) ⟨by omega,_,hk,rfl⟩
   ·exact⟨_,by simp[-Int.natCast_add,cB hW hl1,k1],a+1,.inl rfl⟩
  ·exact⟨_,by simp[cB hW ha,k2],a,.inl rfl⟩
section
omit hW
variable(L)(nm:ByteArray)(h:Ty)(at_:Int)(XX:List (List PV))(a:Nat)(d:Int)
def qF3(l:List (List PV)):Bool→Q
 |false=>Qc (aW L) (iv a) (iv d) (sv nm) (iv h.kind) (sv h.name) (iv h.n) (bH h.kids) l (iv at_)
 |true=>Qb (aW L) (iv a) (iv d) (sv nm) (iv h.kind) (sv h.name) (iv h.n) (bH h.kids) XX l (iv at_)
def qF2:Bool→Q
 |false=>Qe (aW L) (iv a) (iv d) (sv nm) (iv h.kind) (sv h.name) (iv h.n) (bH h.kids) (iv at_)
 |true=>Qd (aW L) (iv a) (iv d) (sv nm) (iv h.kind) (sv h.name) (iv h.n) (bH h.kids) XX (iv at_)
end
theorem ag2(nm:ByteArray)(h:Ty)(at_:Int)(XX:List (List PV))(p:Bool):∀(m:Nat) (l:List Bd) (a:Nat) (d:Int),l.length≤a→0≤d→d≤300→a<L.length→nY L (qF3 L nm h at_ XX a d (l.map Bd.cells) p) (iU L m l d a)
  (fun v b z=>a≤b∧z=(3,ps L b d (ih5 nm h++fl p (.rows XX) :: .rows (v.map Bd.cells)::iz at_))) (fun e w z=>∃(b:Nat) (d':Int) (T:PV),z=(1,ps L b d' (ih5 nm h++fl p (.rows XX)::T::(iz at_++[iv e,iv w])))):=by
 intro m
 induction m with
 |zero=>intro l a d hl h0 h1 ha;rw[iU];trivial
 |succ m ih=>
  intro l a d hl h0 h1 ha;refine .of ?_;rw[iU.eq_2];cases p
  all_goals
   (first|rw[qF3,adS]|rw[qF3,adR])
   have hLl:=hW.len;simp[-Int.natCast_add,dH hW ha];refine .may (fun he=>?_) (fun he=>?_)
   ·exact .pure (aH hW he) (by simp[-Int.natCast_add,he]) ⟨by omega,rfl⟩
   ·simp[-Int.natCast_add,he]
    refine .take (by decide) (fun hd=>?_) (fun hd=>?_)
    ·have hl1:=aH hW hd
     simp[-Int.natCast_add,aO hW ha,hd,Tk.cells];refine .callW (ab6 hW m (a+1) d h0 h1 hl1) (fun v b hb hab g=>?_) (fun e w b d' g=>?_)
     ·simp[-Int.natCast_add,g]
      have hap:=fun k'=>aN (P:=PG) (d:=.fail) (k:=k') wS (kR l) (c:=iP v) rfl (by simp) (by simp;omega) (by decide)
      simp only[hap];refine .take (by decide) (fun hs=>?_) (fun hs=>?_)
      ·have hl2:=aH hW hs
       simp[-Int.natCast_add,aO hW hb,hs,Tk.cells];have hn:=ih (l++[v]) (b+1) d (by simp;omega) h0 h1 hl2;simp only[List.map_append,List.map_cons,List.map_nil,Bd.cells_eq,qF3,sV,sW] at hn;cases hr:iU L m (l++[v]) d (b+1) with
       |out=>trivial
       |err e w=>rw[hr] at hn;obtain⟨z,g1,b2,d',hz⟩:=hn;obtain⟨T,rfl⟩:=hz;exact⟨_,by simp[-Int.natCast_add,g1],b2,d',T,rfl⟩
       |ok v2 b2=>rw[hr] at hn;obtain⟨hb2,z,g1,h5,rfl⟩:=hn;exact⟨hb2,_,by simp[-Int.natCast_add,g1],by omega,rfl⟩
      ·exact⟨_,by simp[-Int.natCast_add,aO hW hb,hs],b,d,.rows (l.map Bd.cells++[iP v]),rfl⟩
     ·exact⟨_,by simp[-Int.natCast_add,g],b,d',.rows (l.map Bd.cells),rfl⟩
    ·exact⟨_,by simp[-Int.natCast_add,aO hW ha,hd],a,d,.rows (l.map Bd.cells),rfl⟩
theorem Pn(nm:ByteArray)(h:Ty)(at_:Int)(XX:List (List PV))(p:Bool)(m:Nat)(a:Nat)(d:Int)(h0:0≤d)(h1:d≤300)(ha:a<L.length):nY L (qF2 L nm h at_ XX a d p) (iU L m [] d a)
  (fun v b z=>a≤b∧(v=[]∧z=(0,ps L b d (ih5 nm h++fl p (.rows XX)::nS::iz at_))∨z=(3,ps L b d (ih5 nm h++fl p (.rows XX) :: .rows (v.map Bd.cells)::iz at_)))) (fun e w z=>∃(b:Nat) (d':Int),z=(2,ps L b d' (ih5 nm h++fl p (.rows XX)::nS::(iz at_++[iv e,iv w])))∨∃(T:PV),z=(1,ps L b d' (ih5 nm h++fl p (.rows XX)::T::(iz at_++[iv e,iv w])))):=by
 cases m with
 |zero=>rw[iU];trivial
 |succ m=>
  refine .of ?_;rw[iU.eq_2];have hZ:=ag2 hW nm h at_ XX p m;cases p
  all_goals
   simp only[qF3,sV,sW] at hZ
   (first|rw[qF2,adU]|rw[qF2,adT])
   have hLl:=hW.len;simp[-Int.natCast_add,dH hW ha];refine .may (fun he=>?_) (fun he=>?_)
   ·exact .pure (aH hW he) (by simp[-Int.natCast_add,he]) ⟨by omega,.inl ⟨rfl,rfl⟩⟩
   ·simp[-Int.natCast_add,he]
    refine .take (by decide) (fun hd=>?_) (fun hd=>?_)
    ·have hl1:=aH hW hd
     simp[-Int.natCast_add,aO hW ha,hd,Tk.cells];refine .callW (ab6 hW m (a+1) d h0 h1 hl1) (fun v b hb hab g=>?_) (fun e w b d' g=>?_)
     ·simp[-Int.natCast_add,g]
      refine .take (by decide) (fun hs=>?_) (fun hs=>?_)
      ·have hl2:=aH hW hs
       simp[-Int.natCast_add,aO hW hb,hs,Tk.cells];have hn:=hZ [v] (b+1) d (by simp) h0 h1 hl2;simp only[List.map_append,List.map_cons,List.map_nil,Bd.cells_eq,qF3,sV,sW] at hn;cases hr:iU L m [v] d (b+1) with
       |out=>trivial
       |err e w=>rw[hr] at hn;obtain⟨z,g1,b2,d',hz⟩:=hn;obtain⟨T,rfl⟩:=hz;exact⟨_,by simp[-Int.natCast_add,g1],b2,d',.inr ⟨T,rfl⟩⟩
       |ok v2 b2=>rw[hr] at hn;obtain⟨hb2,z,g1,h5,rfl⟩:=hn;exact⟨hb2,_,by simp[-Int.natCast_add,g1],by omega,.inr rfl⟩
      ·exact⟨_,by simp[-Int.natCast_add,aO hW hb,hs],b,d,.inr ⟨.rows [iP v],rfl⟩⟩
     ·exact⟨_,by simp[-Int.natCast_add,g],b,d',.inl rfl⟩
    ·exact⟨_,by simp[-Int.natCast_add,aO hW ha,hd],a,d,.inl rfl⟩
abbrev pIt(L:List Tk)(a:Nat)(d:Int):Q:=afK (aW L) (iv a) (iv d)
theorem ag1(m:Nat):Pa L (pIt L) Zf (xI L m):=by
 intro a d h0 h1 ha;refine .weak (alV ev _ _ _) (.of ?_);unfold xI;rw[aqp];refine .takeK (by decide) (fun k2=>?_) (fun k2=>?_)
 ·have hl1:=hW.fin a (by omega)
  simp[-Int.natCast_add,cB hW ha,k2,Tk.cells];refine .callW (s_at hW m (a+1) d h0 h1 hl1) (fun h b hb hab g=>?_) (fun e w b d' g=>?_)
  ·simp[-Int.natCast_add,g]
   simp[-Int.natCast_add,dH hW hb];cases hf:lF L wV b with
   |false=>
    simp[-Int.natCast_add,hf];have e0:ak (dP L wV (nT L m []) (aS [])) (fun c=>ak (aV L 6 mH) fun _=>ak (iU L m []) fun bs=>aS (⟨(ai L a).text,h,c,bs,(ai L a).at_⟩:It)) d b=ak (aV L 6 mH) (fun _=>ak (iU L m []) fun bs=>aS (⟨(ai L a).text,h,[],bs,(ai L a).at_⟩:It)) d b:=by
     conv=>lhs;unfold ak dP
     rw[hf];rfl
    rw[e0];refine .take (by decide) (fun hw=>?_) (fun hw=>?_)
    ·have hl4:=aH hW hw
     simp[-Int.natCast_add,aO hW hb,hw,Tk.cells];refine .bind (Pn hW (ai L a).text h (ai L a).at_ [] false m (b+1) d h0 h1 hl4) (fun bs b4 z hb4 g4 hz=>?_) (fun e w z g4 hz=>?_)
     all_goals simp only[qF2] at g4
     ·obtain⟨hab4,⟨rfl,rfl⟩|rfl⟩:=hz
      ·exact .pure hb4 (by simp[-Int.natCast_add,g4]) (.of (m:=[0,0,1,0,0]) (k:=0) (ys:=ih5 (ai L a).text h++[nS,nS,iv (ai L a).at_]) (by omega) rfl (by simp[rQ,bn]))
      ·exact .pure hb4 (by simp[-Int.natCast_add,g4]) (.of (m:=[0,0,1,0,0]) (k:=1) (ys:=ih5 (ai L a).text h++[nS,.rows (bs.map Bd.cells),iv (ai L a).at_]) (by omega) rfl (by simp[rQ,bn,iq,bn]))
     ·obtain⟨b4,d',rfl|⟨T,rfl⟩⟩:=hz
      ·exact⟨_,by simp[-Int.natCast_add,g4],.of (m:=[0,0,1,0,0]) (b:=b4) (d:=d') (k:=2) rfl⟩
      ·exact⟨_,by simp[-Int.natCast_add,g4],.of (m:=[0,0,1,0,0]) (b:=b4) (d:=d') (k:=2) rfl⟩
    ·exact⟨_,by simp[-Int.natCast_add,aO hW hb,hw],.of (m:=[0,0,1,0,0]) (b:=b) (d:=d) (k:=2) rfl⟩
   |true=>
    have hl3:=aH hW hf;simp[-Int.natCast_add,hf];have e0:ak (dP L wV (nT L m []) (aS [])) (fun c=>ak (aV L 6 mH) fun _=>ak (iU L m []) fun bs=>aS (⟨(ai L a).text,h,c,bs,(ai L a).at_⟩:It)) d b=ak (nT L m []) (fun c=>ak (aV L 6 mH) fun _=>ak (iU L m []) fun bs=>aS (⟨(ai L a).text,h,c,bs,(ai L a).at_⟩:It)) d (b+1):=by
     conv=>lhs;unfold ak dP
     rw[hf];rfl
    rw[e0];refine .bind (ag4 hW (ai L a).text h (ai L a).at_ m (b+1) d h0 h1 hl3) (fun c b3 z hb3 g3 hz=>?_) (fun e w z g3 hz=>?_)
    ·obtain⟨hab3,B,hB,rfl⟩:=hz
     simp[-Int.natCast_add,g3];refine .take (by decide) (fun hw=>?_) (fun hw=>?_)
     ·have hl4:=aH hW hw
      simp[-Int.natCast_add,aO hW hb3,hw,Tk.cells];refine .bind (Pn hW (ai L a).text h (ai L a).at_ B true m (b3+1) d h0 h1 hl4) (fun bs b4 z hb4 g4 hz=>?_) (fun e w z g4 hz=>?_)
      all_goals simp only[qF2] at g4
      ·obtain⟨hab4,⟨rfl,rfl⟩|rfl⟩:=hz
       ·exact .pure hb4 (by simp[-Int.natCast_add,g4]) (.of (m:=[0,0,1,0,0]) (k:=3) (ys:=ih5 (ai L a).text h++[.rows B,nS,iv (ai L a).at_]) (by omega) rfl (by simp[hB.wd,rQ]))
       ·exact .pure hb4 (by simp[-Int.natCast_add,g4]) (.of (m:=[0,0,1,0,0]) (k:=4) (ys:=ih5 (ai L a).text h++[.rows B,.rows (bs.map Bd.cells),iv (ai L a).at_]) (by omega) rfl (by simp[hB.wd,rQ,iq,bn]))
      ·obtain⟨b4,d',rfl|⟨T,rfl⟩⟩:=hz
       ·exact⟨_,by simp[-Int.natCast_add,g4],.of (m:=[0,0,1,0,0]) (b:=b4) (d:=d') (k:=2) rfl⟩
       ·exact⟨_,by simp[-Int.natCast_add,g4],.of (m:=[0,0,1,0,0]) (b:=b4) (d:=d') (k:=2) rfl⟩
     ·exact⟨_,by simp[-Int.natCast_add,aO hW hb3,hw],.of (m:=[0,0,1,0,0]) (b:=b3) (d:=d) (k:=2) rfl⟩
    ·obtain⟨b3,rfl|⟨T,rfl⟩⟩:=hz
     ·exact⟨_,by simp[-Int.natCast_add,g3],.of (m:=[0,0,1,0,0]) (b:=b3) (d:=d) (k:=2) rfl⟩
     ·exact⟨_,by simp[-Int.natCast_add,g3],.of (m:=[0,0,1,0,0]) (b:=b3) (d:=d) (k:=2) rfl⟩
  ·exact⟨_,by simp[-Int.natCast_add,g],.of (m:=[0,0,1,0,0]) (b:=b) (d:=d') (k:=2) rfl⟩
 ·exact⟨_,by simp[cB hW ha,k2],.of (m:=[0,0,1,0,0]) (b:=a) (d:=d) (k:=2) rfl⟩
end
set_option maxRecDepth 10000
set_option maxHeartbeats 4000000
def JJ:Bool→Bool→Bool→Bool→Nat
 |false,false,false,false=>5
 |false,false,false,true=>15
 |false,false,true,false=>14
 |false,false,true,true=>25
 |false,true,false,false=>12
 |false,true,false,true=>24
 |false,true,true,false=>23
 |false,true,true,true=>30
 |true,false,false,false=>9
 |true,false,false,true=>21
 |true,false,true,false=>20
 |true,false,true,true=>29
 |true,true,false,false=>18
 |true,true,false,true=>28
 |true,true,true,false=>27
 |true,true,true,true=>31
@[simp] theorem asv:JJ false false false false=5:=rfl
@[simp] theorem asz:JJ false false false true=15:=rfl
@[simp] theorem asw:JJ false false true false=14:=rfl
@[simp] theorem apD:JJ false false true true=25:=rfl
@[simp] theorem asy:JJ false true false false=12:=rfl
@[simp] theorem apI:JJ false true false true=24:=rfl
@[simp] theorem apH:JJ false true true false=23:=rfl
@[simp] theorem anu:JJ false true true true=30:=rfl
@[simp] theorem asx:JJ true false false false=9:=rfl
@[simp] theorem apG:JJ true false false true=21:=rfl
@[simp] theorem apE:JJ true false true false=20:=rfl
@[simp] theorem anq:JJ true false true true=29:=rfl
@[simp] theorem apF:JJ true true false false=18:=rfl
@[simp] theorem ant:JJ true true false true=28:=rfl
@[simp] theorem anr:JJ true true true false=27:=rfl
@[simp] theorem alm:JJ true true true true=31:=rfl
def EJ:Bool→Bool→Bool→Bool→Nat
 |false,false,false,false=>1
 |false,false,false,true=>4
 |false,false,true,false=>3
 |false,false,true,true=>13
 |false,true,false,false=>2
 |false,true,false,true=>11
 |false,true,true,false=>10
 |false,true,true,true=>22
 |true,false,false,false=>0
 |true,false,false,true=>8
 |true,false,true,false=>7
 |true,false,true,true=>19
 |true,true,false,false=>6
 |true,true,false,true=>17
 |true,true,true,false=>16
 |true,true,true,true=>26
@[simp] theorem asL:EJ false false false false=1:=rfl
@[simp] theorem asP:EJ false false false true=4:=rfl
@[simp] theorem asM:EJ false false true false=3:=rfl
@[simp] theorem aq0:EJ false false true true=13:=rfl
@[simp] theorem asO:EJ false true false false=2:=rfl
@[simp] theorem aq5:EJ false true false true=11:=rfl
@[simp] theorem aq4:EJ false true true false=10:=rfl
@[simp] theorem anO:EJ false true true true=22:=rfl
@[simp] theorem asN:EJ true false false false=0:=rfl
@[simp] theorem aq3:EJ true false false true=8:=rfl
@[simp] theorem aq1:EJ true false true false=7:=rfl
@[simp] theorem anL:EJ true false true true=19:=rfl
@[simp] theorem aq2:EJ true true false false=6:=rfl
@[simp] theorem anN:EJ true true false true=17:=rfl
@[simp] theorem anM:EJ true true true false=16:=rfl
@[simp] theorem amm:EJ true true true true=26:=rfl
def FE(L:List Tk)(a:Nat)(d:Int):Bool→Bool→Bool→Bool→List Dt→List Cl→List It→List Bd→Q
 |false,false,false,false,_,_,_,_=>RD (aW L) (iv a) (iv d)
 |false,false,false,true,_,_,_,B=>Rx (aW L) (iv a) (iv d) (B.map Bd.cells)
 |false,false,true,false,_,_,I,_=>Ry (aW L) (iv a) (iv d) (I.map It.cells)
 |false,false,true,true,_,_,I,B=>Rn (aW L) (iv a) (iv d) (I.map It.cells) (B.map Bd.cells)
 |false,true,false,false,_,C,_,_=>RA (aW L) (iv a) (iv d) (C.map Cl.cells)
 |false,true,false,true,_,C,_,B=>Ro (aW L) (iv a) (iv d) (C.map Cl.cells) (B.map Bd.cells)
 |false,true,true,false,_,C,I,_=>Rp (aW L) (iv a) (iv d) (C.map Cl.cells) (I.map It.cells)
 |false,true,true,true,_,C,I,B=>Ri (aW L) (iv a) (iv d) (C.map Cl.cells) (I.map It.cells) (B.map Bd.cells)
 |true,false,false,false,D,_,_,_=>RB (aW L) (iv a) (iv d) (D.map Dt.cells)
 |true,false,false,true,D,_,_,B=>Rq (aW L) (iv a) (iv d) (D.map Dt.cells) (B.map Bd.cells)
 |true,false,true,false,D,_,I,_=>Rv (aW L) (iv a) (iv d) (D.map Dt.cells) (I.map It.cells)
 |true,false,true,true,D,_,I,B=>Rj (aW L) (iv a) (iv d) (D.map Dt.cells) (I.map It.cells) (B.map Bd.cells)
 |true,true,false,false,D,C,_,_=>Rw (aW L) (iv a) (iv d) (D.map Dt.cells) (C.map Cl.cells)
 |true,true,false,true,D,C,_,B=>Rk (aW L) (iv a) (iv d) (D.map Dt.cells) (C.map Cl.cells) (B.map Bd.cells)
 |true,true,true,false,D,C,I,_=>Rm (aW L) (iv a) (iv d) (D.map Dt.cells) (C.map Cl.cells) (I.map It.cells)
 |true,true,true,true,D,C,I,B=>Rh (aW L) (iv a) (iv d) (D.map Dt.cells) (C.map Cl.cells) (I.map It.cells) (B.map Bd.cells)
abbrev KZ(D:List Dt)(C:List Cl)(I:List It)(B:List Bd):Pg:=⟨⟨D,C,I⟩,B⟩
abbrev Yk(b1 b2 b3 b4:Bool)(T U V W:List (List PV)):List PV:=[fl b1 (.rows T),fl b2 (.rows U),fl b3 (.rows V),fl b4 (.rows W),nS,nS,nS,nS]
def okG(L:List Tk)(a:Nat)(d:Int)(v:Pg)(b:Nat)(z:Rs):Prop:=a≤b∧∃b1 b2 b3 b4:Bool,(b1=false→v.datas=[])∧(b2=false→v.classes=[])∧(b3=false→v.insts=[])∧(b4=false→v.binds=[])∧z=(JJ b1 b2 b3 b4,ps L b d (Yk b1 b2 b3 b4 (v.datas.map Dt.cells) (v.classes.map Cl.cells) (v.insts.map It.cells) (v.binds.map Bd.cells)))
def erG(L:List Tk)(e w:Int)(z:Rs):Prop:=∃(b:Nat) (d':Int) (b1 b2 b3 b4:Bool) (T U V W:List (List PV)),z=(EJ b1 b2 b3 b4,ps L b d' (Yk b1 b2 b3 b4 T U V W++[iv e,iv w]))
section
variable{L:List Tk}(hW:F3 L)
include hW
theorem abZ:∀(m:Nat) (b1 b2 b3 b4:Bool) (D:List Dt) (C:List Cl) (I:List It) (B:List Bd) (a:Nat) (d:Int),(b1=false→D=[])→(b2=false→C=[])→(b3=false→I=[])→(b4=false→B=[])→D.length+C.length+I.length+B.length≤a→0≤d→d≤300→a<L.length→nY L (FE L a d b1 b2 b3 b4 D C I B) (eG L m (KZ D C I B) d a) (okG L a d) (erG L):=by
 intro m
 induction m with
 |zero=>intro b1 b2 b3 b4 D C I B a d _ _ _ _ _ _ _ _;rw[eG];trivial
 |succ m ih=>
  intro b1 b2 b3 b4 D C I B a d i1 i2 i3 i4 hl h0 h1 ha;have hLl:=hW.len;have jD:=fun(v:Dt) (b:Nat) (hab:a<b) (hb:b<L.length)=>ih true b2 b3 b4 (D++[v]) C I B b d (fun h=>by cases h) i2 i3 i4 (by simp only[List.length_append,List.length_cons,List.length_nil];omega) h0 h1 hb
  have jC:=fun(v:Cl) (b:Nat) (hab:a<b) (hb:b<L.length)=>ih b1 true b3 b4 D (C++[v]) I B b d i1 (fun h=>by cases h) i3 i4 (by simp only[List.length_append,List.length_cons,List.length_nil];omega) h0 h1 hb
  have jI:=fun(v:It) (b:Nat) (hab:a<b) (hb:b<L.length)=>ih b1 b2 true b4 D C (I++[v]) B b d i1 i2 (fun h=>by cases h) i4 (by simp only[List.length_append,List.length_cons,List.length_nil];omega) h0 h1 hb
  have jB:=fun(v:Bd) (b:Nat) (hab:a<b) (hb:b<L.length)=>ih b1 b2 b3 true D C I (B++[v]) b d i1 i2 i3 (fun h=>by cases h) (by simp only[List.length_append,List.length_cons,List.length_nil];omega) h0 h1 hb
  have kO:okG L a d (KZ D C I B) a (JJ b1 b2 b3 b4,ps L a d (Yk b1 b2 b3 b4 (D.map Dt.cells) (C.map Cl.cells) (I.map It.cells) (B.map Bd.cells))):=⟨Nat.le_refl _,_,_,_,_,i1,i2,i3,i4,rfl⟩;have kE:=fun(b:Nat) (d' e w:Int)=>(⟨b,d',b1,b2,b3,b4,D.map Dt.cells,C.map Cl.cells,I.map It.cells,B.map Bd.cells,rfl⟩:erG L e w (EJ b1 b2 b3 b4,ps L b d' (Yk b1 b2 b3 b4 (D.map Dt.cells) (C.map Cl.cells) (I.map It.cells) (B.map Bd.cells)++[iv e,iv w])))
  have kD:=fun(v:Dt) (b:Nat) (e w:Int)=>(⟨b,d,true,b2,b3,b4,D.map Dt.cells++[dtC v],C.map Cl.cells,I.map It.cells,B.map Bd.cells,rfl⟩:erG L e w (EJ true b2 b3 b4,ps L b d (Yk true b2 b3 b4 (D.map Dt.cells++[dtC v]) (C.map Cl.cells) (I.map It.cells) (B.map Bd.cells)++[iv e,iv w])))
  have kC:=fun(v:Cl) (b:Nat) (e w:Int)=>(⟨b,d,b1,true,b3,b4,D.map Dt.cells,C.map Cl.cells++[OC v],I.map It.cells,B.map Bd.cells,rfl⟩:erG L e w (EJ b1 true b3 b4,ps L b d (Yk b1 true b3 b4 (D.map Dt.cells) (C.map Cl.cells++[OC v]) (I.map It.cells) (B.map Bd.cells)++[iv e,iv w])))
  have kI:=fun(v:It) (b:Nat) (e w:Int)=>(⟨b,d,b1,b2,true,b4,D.map Dt.cells,C.map Cl.cells,I.map It.cells++[Zf v],B.map Bd.cells,rfl⟩:erG L e w (EJ b1 b2 true b4,ps L b d (Yk b1 b2 true b4 (D.map Dt.cells) (C.map Cl.cells) (I.map It.cells++[Zf v]) (B.map Bd.cells)++[iv e,iv w])))
  have kB:=fun(v:Bd) (b:Nat) (e w:Int)=>(⟨b,d,b1,b2,b3,true,D.map Dt.cells,C.map Cl.cells,I.map It.cells,B.map Bd.cells++[iP v],rfl⟩:erG L e w (EJ b1 b2 b3 true,ps L b d (Yk b1 b2 b3 true (D.map Dt.cells) (C.map Cl.cells) (I.map It.cells) (B.map Bd.cells++[iP v])++[iv e,iv w])))
  have aD:=fun(v:Dt) k'=>aN (P:=PG) (d:=.fail) (k:=k') ajL (Pv D) (c:=dtC v) rfl (by simp) (by simp;omega) (by decide)
  have aC:=fun(v:Cl) k'=>aN (P:=PG) (d:=.fail) (k:=k') ajM (Pw C) (c:=OC v) rfl (by simp) (by simp;omega) (by decide)
  have aI:=fun(v:It) k'=>aN (P:=PG) (d:=.fail) (k:=k') ajK (Ps I) (c:=Zf v) rfl (by simp) (by simp;omega) (by decide)
  have aB:=fun(v:Bd) k'=>aN (P:=PG) (d:=.fail) (k:=k') wS (kR B) (c:=iP v) rfl (by simp) (by simp;omega) (by decide)
  refine .of ?_;cases b1<;>cases b2<;>cases b3<;>cases b4
  all_goals
   (first|(obtain rfl:=i1 rfl)|skip)
   (first|(obtain rfl:=i2 rfl)|skip)
   (first|(obtain rfl:=i3 rfl)|skip)
   (first|(obtain rfl:=i4 rfl)|skip)
   simp only[FE,List.map_append,List.map_cons,List.map_nil,List.nil_append,Dt.cells,Cl.cells,It.cells,Bd.cells_eq,Yk,sV,sW,ps,List.cons_append] at jD jC jI jB kO kE kD kC kI kB aD aC aI aB;rw[eG.eq_2]
   (first
    |rw[FE,aeH]
    |rw[FE,aeD]
    |rw[FE,aeE]
    |rw[FE,aex]
    |rw[FE,aeF]
    |rw[FE,aey]
    |rw[FE,aez]
    |rw[FE,aer]
    |rw[FE,aeG]
    |rw[FE,aeA]
    |rw[FE,aeB]
    |rw[FE,aes]
    |rw[FE,aeC]
    |rw[FE,aeu]
    |rw[FE,aew]
    |rw[FE,aep]
    )
   refine .kind (fun k0=>?_) (fun k0=>?_)
   ·exact .pure ha (by simp[-Int.natCast_add,d9 ha,Tk.cells,k0]) kO
   ·simp[-Int.natCast_add,d9 ha,Tk.cells,eq_false k0]
    simp[-Int.natCast_add,dH hW ha];refine .may (fun hd=>?_) (fun hd=>?_)
    ·have hl1:=aH hW hd
     simp[-Int.natCast_add,hd];refine .callW (ag3 hW m (a+1) d h0 h1 hl1) (fun v b hb hab g=>?_) (fun e w b d' g=>?_)
     ·simp[-Int.natCast_add,g]
      (first|simp only[aD v]|skip)
      refine .take (by decide) (fun hs=>?_) (fun hs=>?_)
      ·have hl2:=aH hW hs
       simp[-Int.natCast_add,aO hW hb,hs,Tk.cells];have hn:=jD v (b+1) (by omega) hl2;revert hn;generalize eG L m _ d (b+1)=r;intro hn;cases r with
       |out=>trivial
       |err e w=>obtain⟨z,g1,hz⟩:=hn;exact⟨z,by obtain⟨_,_⟩:=z;simp[-Int.natCast_add,g1],hz⟩
       |ok v2 b2=>obtain⟨hb2,z,g1,h5,hz⟩:=hn;exact⟨hb2,z,by obtain⟨_,_⟩:=z;simp[-Int.natCast_add,g1],by omega,hz⟩
      ·exact⟨_,by simp[-Int.natCast_add,aO hW hb,hs],kD v b _ _⟩
     ·exact⟨_,by simp[-Int.natCast_add,g],kE b d' _ _⟩
    ·simp[-Int.natCast_add,hd]
     simp[-Int.natCast_add,dH hW ha];refine .may (fun hd=>?_) (fun hd=>?_)
     ·have hl1:=aH hW hd
      simp[-Int.natCast_add,hd];refine .callW (ab3 hW m (a+1) d h0 h1 hl1) (fun v b hb hab g=>?_) (fun e w b d' g=>?_)
      ·simp[-Int.natCast_add,g]
       (first|simp only[aC v]|skip)
       refine .take (by decide) (fun hs=>?_) (fun hs=>?_)
       ·have hl2:=aH hW hs
        simp[-Int.natCast_add,aO hW hb,hs,Tk.cells];have hn:=jC v (b+1) (by omega) hl2;revert hn;generalize eG L m _ d (b+1)=r;intro hn;cases r with
        |out=>trivial
        |err e w=>obtain⟨z,g1,hz⟩:=hn;exact⟨z,by obtain⟨_,_⟩:=z;simp[-Int.natCast_add,g1],hz⟩
        |ok v2 b2=>obtain⟨hb2,z,g1,h5,hz⟩:=hn;exact⟨hb2,z,by obtain⟨_,_⟩:=z;simp[-Int.natCast_add,g1],by omega,hz⟩
       ·exact⟨_,by simp[-Int.natCast_add,aO hW hb,hs],kC v b _ _⟩
      ·exact⟨_,by simp[-Int.natCast_add,g],kE b d' _ _⟩
     ·simp[-Int.natCast_add,hd]
      simp[-Int.natCast_add,dH hW ha];refine .may (fun hd=>?_) (fun hd=>?_)
      ·have hl1:=aH hW hd
       simp[-Int.natCast_add,hd];refine .callW (ag1 hW m (a+1) d h0 h1 hl1) (fun v b hb hab g=>?_) (fun e w b d' g=>?_)
       ·simp[-Int.natCast_add,g]
        (first|simp only[aI v]|skip)
        refine .take (by decide) (fun hs=>?_) (fun hs=>?_)
        ·have hl2:=aH hW hs
         simp[-Int.natCast_add,aO hW hb,hs,Tk.cells];have hn:=jI v (b+1) (by omega) hl2;revert hn;generalize eG L m _ d (b+1)=r;intro hn;cases r with
         |out=>trivial
         |err e w=>obtain⟨z,g1,hz⟩:=hn;exact⟨z,by obtain⟨_,_⟩:=z;simp[-Int.natCast_add,g1],hz⟩
         |ok v2 b2=>obtain⟨hb2,z,g1,h5,hz⟩:=hn;exact⟨hb2,z,by obtain⟨_,_⟩:=z;simp[-Int.natCast_add,g1],by omega,hz⟩
        ·exact⟨_,by simp[-Int.natCast_add,aO hW hb,hs],kI v b _ _⟩
       ·exact⟨_,by simp[-Int.natCast_add,g],kE b d' _ _⟩
      ·simp[-Int.natCast_add,hd]
       refine .take (by decide) (fun hd=>?_) (fun hd=>?_)
       ·have hl1:=aH hW hd
        simp[-Int.natCast_add,aO hW ha,hd,Tk.cells];refine .callW (ab6 hW m (a+1) d h0 h1 hl1) (fun v b hb hab g=>?_) (fun e w b d' g=>?_)
        ·simp[-Int.natCast_add,g]
         (first|simp only[aB v]|skip)
         refine .take (by decide) (fun hs=>?_) (fun hs=>?_)
         ·have hl2:=aH hW hs
          simp[-Int.natCast_add,aO hW hb,hs,Tk.cells];have hn:=jB v (b+1) (by omega) hl2;revert hn;generalize eG L m _ d (b+1)=r;intro hn;cases r with
          |out=>trivial
          |err e w=>obtain⟨z,g1,hz⟩:=hn;exact⟨z,by obtain⟨_,_⟩:=z;simp[-Int.natCast_add,g1],hz⟩
          |ok v2 b2=>obtain⟨hb2,z,g1,h5,hz⟩:=hn;exact⟨hb2,z,by obtain⟨_,_⟩:=z;simp[-Int.natCast_add,g1],by omega,hz⟩
         ·exact⟨_,by simp[-Int.natCast_add,aO hW hb,hs],kB v b _ _⟩
        ·exact⟨_,by simp[-Int.natCast_add,g],kE b d' _ _⟩
       ·exact⟨_,by simp[-Int.natCast_add,aO hW ha,hd],kE a d _ _⟩
end
set_option maxRecDepth 10000
set_option maxHeartbeats 4000000
theorem gT{L:List Tk}{q qw:Q}{m:List Nat}{k b:Nat}{d:Int}{ys zs:List PV}(hw:body PG EE TT ev qw=weakM m (ev q))(h:ev q=some (k,ps L b d ys))(hk:nth 0 m k=0)(hy:dD ys=zs):ev qw=some (0,ps L b d zs):=ax.of (by
 rw[hw,h,iZ,hk];simp[hy])
theorem abH{L:List Tk}{q qw:Q}{m:List Nat}{k b:Nat}{d e w:Int}(hw:body PG EE TT ev qw=weakM m (ev q))(h:ev q=some (k,ps L b d [iv e,iv w]))(hk:nth 0 m k=1):ev qw=some (1,ps L b d [iv e,iv w]):=ax.of (by
 rw[hw,h,iZ,hk])
abbrev pgC(v:Pg):List PV:=[.rows (v.datas.map Dt.cells),.rows (v.classes.map Cl.cells),.rows (v.insts.map It.cells),.rows (v.binds.map Bd.cells)]
theorem mP(l:List Dt):kK (.rows (l.map Dt.cells))=.rows (l.map Dt.cells):=by
 have:kK (jm l)=jm l:=by simp
 rw[jm] at this;exact this
theorem mQ(l:List Cl):kK (.rows (l.map Cl.cells))=.rows (l.map Cl.cells):=by
 have:kK (cls l)=cls l:=by simp
 rw[cls] at this;exact this
theorem mO(l:List It):kK (.rows (l.map It.cells))=.rows (l.map It.cells):=by
 have:kK (its l)=its l:=by simp
 rw[its] at this;exact this
theorem Ep{α β:Type}{p:GM α}{k:α→GM β}{d:Int}{a b:Nat}{v:β}(h:ak p k d a=.ok v b):∃x c,k x d c=.ok v b:=by
 unfold ak at h;cases hp:p d a with
 |out=>rw[hp] at h;cases h
 |err e w=>rw[hp] at h;cases h
 |ok x c=>rw[hp] at h;exact⟨x,c,h⟩
theorem KH(L:List Tk):∀(m:Nat) (p:Pg) (d:Int) (a b:Nat) (v:Pg),eG L m p d a=.ok v b→(ai L b).kind=0
 |0,p,d,a,b,v,h=>by rw[eG] at h;cases h
 |m+1,p,d,a,b,v,h=>by
  rw[eG] at h;unfold kg at h;split at h
  ·cases h;assumption
  ·have key:∀{α:Type} (q:GM α) (x:ByteArray) (f:α→Pg) (c:Nat),ak q (fun x'=>ak (aV L 7 x) fun _=>eG L m (f x')) d c=.ok v b→(ai L b).kind=0:=fun q x f c h=>by
    obtain⟨y,c1,h⟩:=Ep h;obtain⟨z,c2,h⟩:=Ep h;exact KH L m _ d c2 b v h
   unfold dP at h;split at h
   ·exact key _ _ _ _ h
   ·split at h
    ·exact key _ _ _ _ h
    ·split at h
     ·exact key _ _ _ _ h
     ·obtain⟨y,c1,h⟩:=Ep h
      exact key _ _ _ _ h
section
variable{L:List Tk}(hW:F3 L)
include hW
abbrev pPr(L:List Tk)(a:Nat)(d:Int):Q:=Rc (aW L) (iv a) (iv d)
theorem WB(m a:Nat)(d:Int)(h0:0≤d)(h1:d≤300)(ha:a<L.length):nY L (pPr L a d) (eG L m (KZ [] [] [] []) d a) (fun v b z=>z=(0,ps L b d (pgC v))) (Vx L 1):=by
 have hn:=abZ hW m false false false false [] [] [] [] a d (fun _=>rfl) (fun _=>rfl) (fun _=>rfl) (fun _=>rfl) (by simp) h0 h1 ha;have hw:=al6 ev (aW L) (iv a) (iv d);revert hn;generalize eG L m (KZ [] [] [] []) d a=r;intro hn;cases r with
 |out=>trivial
 |err e w=>
  obtain⟨z,g,b,d',b1,b2,b3,b4,T,U,V,W,rfl⟩:=hn;simp only[FE] at g;refine⟨_,abH (k:=16) (b:=b) (d:=d') (e:=e) (w:=w) hw (ax.of ?_) rfl,b,d',rfl⟩;rw[sS];cases b1<;>cases b2<;>cases b3<;>cases b4
  all_goals
   simp only[Yk,sV,sW,ps,List.cons_append,List.nil_append] at g;simp[g]
 |ok v b=>
  obtain⟨hb,z,g,hab,b1,b2,b3,b4,i1,i2,i3,i4,rfl⟩:=hn;simp only[FE] at g;refine⟨hb,_,?_,rfl⟩;cases b1<;>cases b2<;>cases b3<;>cases b4
  all_goals
   simp only[Yk,sV,sW,ps,List.cons_append,List.nil_append] at g
  ·exact gT (k:=0) (ys:=[nS,nS,nS,nS]) hw (ax.of (by rw[sS];simp[g])) rfl (by simp[mP,mQ,mO,iq,i1 rfl,i2 rfl,i3 rfl,i4 rfl])
  ·exact gT (k:=1) (ys:=[nS,nS,nS,.rows (v.binds.map Bd.cells)]) hw (ax.of (by rw[sS];simp[g])) rfl (by simp[mP,mQ,mO,iq,i1 rfl,i2 rfl,i3 rfl])
  ·exact gT (k:=2) (ys:=[nS,nS,.rows (v.insts.map It.cells),nS]) hw (ax.of (by rw[sS];simp[g])) rfl (by simp[mP,mQ,mO,iq,i1 rfl,i2 rfl,i4 rfl])
  ·exact gT (k:=3) (ys:=[nS,nS,.rows (v.insts.map It.cells),.rows (v.binds.map Bd.cells)]) hw (ax.of (by rw[sS];simp[g])) rfl (by simp[mP,mQ,mO,iq,i1 rfl,i2 rfl])
  ·exact gT (k:=4) (ys:=[nS,.rows (v.classes.map Cl.cells),nS,nS]) hw (ax.of (by rw[sS];simp[g])) rfl (by simp[mP,mQ,mO,iq,i1 rfl,i3 rfl,i4 rfl])
  ·exact gT (k:=5) (ys:=[nS,.rows (v.classes.map Cl.cells),nS,.rows (v.binds.map Bd.cells)]) hw (ax.of (by rw[sS];simp[g])) rfl (by simp[mP,mQ,mO,iq,i1 rfl,i3 rfl])
  ·exact gT (k:=6) (ys:=[nS,.rows (v.classes.map Cl.cells),.rows (v.insts.map It.cells),nS]) hw (ax.of (by rw[sS];simp[g])) rfl (by simp[mP,mQ,mO,iq,i1 rfl,i4 rfl])
  ·exact gT (k:=7) (ys:=[nS,.rows (v.classes.map Cl.cells),.rows (v.insts.map It.cells),.rows (v.binds.map Bd.cells)]) hw (ax.of (by rw[sS];simp[g])) rfl (by simp[mP,mQ,mO,iq,i1 rfl])
  ·exact gT (k:=8) (ys:=[.rows (v.datas.map Dt.cells),nS,nS,nS]) hw (ax.of (by rw[sS];simp[g])) rfl (by simp[mP,mQ,mO,iq,i2 rfl,i3 rfl,i4 rfl])
  ·exact gT (k:=9) (ys:=[.rows (v.datas.map Dt.cells),nS,nS,.rows (v.binds.map Bd.cells)]) hw (ax.of (by rw[sS];simp[g])) rfl (by simp[mP,mQ,mO,iq,i2 rfl,i3 rfl])
  ·exact gT (k:=10) (ys:=[.rows (v.datas.map Dt.cells),nS,.rows (v.insts.map It.cells),nS]) hw (ax.of (by rw[sS];simp[g])) rfl (by simp[mP,mQ,mO,iq,i2 rfl,i4 rfl])
  ·exact gT (k:=11) (ys:=[.rows (v.datas.map Dt.cells),nS,.rows (v.insts.map It.cells),.rows (v.binds.map Bd.cells)]) hw (ax.of (by rw[sS];simp[g])) rfl (by simp[mP,mQ,mO,iq,i2 rfl])
  ·exact gT (k:=12) (ys:=[.rows (v.datas.map Dt.cells),.rows (v.classes.map Cl.cells),nS,nS]) hw (ax.of (by rw[sS];simp[g])) rfl (by simp[mP,mQ,mO,iq,i3 rfl,i4 rfl])
  ·exact gT (k:=13) (ys:=[.rows (v.datas.map Dt.cells),.rows (v.classes.map Cl.cells),nS,.rows (v.binds.map Bd.cells)]) hw (ax.of (by rw[sS];simp[g])) rfl (by simp[mP,mQ,mO,iq,i3 rfl])
  ·exact gT (k:=14) (ys:=[.rows (v.datas.map Dt.cells),.rows (v.classes.map Cl.cells),.rows (v.insts.map It.cells),nS]) hw (ax.of (by rw[sS];simp[g])) rfl (by simp[mP,mQ,mO,iq,i4 rfl])
  ·exact gT (k:=15) (ys:=[.rows (v.datas.map Dt.cells),.rows (v.classes.map Cl.cells),.rows (v.insts.map It.cells),.rows (v.binds.map Bd.cells)]) hw (ax.of (by rw[sS];simp[g])) rfl (by simp[mP,mQ,mO,iq])
end
set_option maxRecDepth 10000
theorem Wy{b:ByteArray}:NZ (Lx.scanP b)=false:=by
 cases h:Lx.scanP b with
 |error p=>rfl
 |ok ts=>
  cases ts with
  |cons t l=>rfl
  |nil=>
   exfalso;have h2:jL b=.ok []:=by unfold jL;rw[h];rfl
   exact absurd (wT h2).2.2.pos (by simp)
theorem agV(b:ByteArray)(hb:b.size≤1000000):ev (q42 (sv b))=some (0,match jL b with
  |.ok L=>[aW L,iv 0,iv 0]
  |.error (c,p)=>[nS,iv c,iv (p:Nat)]):=by
 refine ax.of ?_;rw[h42];have e:Ww [sv b]=some (0,[(om (Lx.scanP b)).1,iv (om (Lx.scanP b)).2.1,iv (om (Lx.scanP b)).2.2]):=by
  show (if b.size≤1000000∧NZ (Lx.scanP b)=false then _ else none)=_;rw[if_pos ⟨hb,Wy⟩]
 rw[e];unfold jL;cases h:Lx.scanP b with
 |error p=>rfl
 |ok ts=>rfl
def PPr(b:ByteArray)(r:Rz Pg):Prop:=match r with
 |.out=>True
 |.ok v _=>ev (q10 (sv b))=some (0,pgC v++[iv 0,iv 0])
 |.err e w=>ev (q10 (sv b))=some (0,[nS,nS,nS,nS,iv e,iv w])
theorem RX(b:ByteArray)(hb:b.size≤1000000):match jL b with
  |.error (c,p)=>PPr b (.err c p)
  |.ok L=>∀m,PPr b (eG L m ⟨⟨[],[],[]⟩,[]⟩ 0 0):=by
 have hs:=agV b hb;cases ht:jL b with
 |error p=>
  obtain⟨c,p⟩:=p;rw[ht] at hs;have hc:=yH ht;have hw:ev (acA (sv b))=some (0,[nS,nS,nS,nS,iv c,iv (p:Nat)]):=ax.of (by rw[ais];simp[hs,hc]);exact ax.of (by rw[h10];simp[hw])
 |ok L=>
  rw[ht] at hs;obtain⟨hz,hl,hW⟩:=wT ht;intro m;have hn:=WB hW m 0 0 (by decide) (by decide) hW.pos;have he:∀v b',eG L m (KZ [] [] [] []) 0 0=.ok v b'→_:=fun v b'=>KH L m _ 0 0 b' v
  revert hn he;show nY L (pPr L 0 0) (eG L m (KZ [] [] [] []) 0 0) _ _→_→PPr b (eG L m (KZ [] [] [] []) 0 0);generalize eG L m (KZ [] [] [] []) 0 0=r;intro hn he;cases r with
  |out=>trivial
  |err e w=>
   obtain⟨z,g,b',d',rfl⟩:=hn;have g:ev (Rc (aW L) (iv 0) (iv 0))=_:=g;have hw:ev (acA (sv b))=some (0,[nS,nS,nS,nS,iv e,iv w]):=ax.of (by rw[ais];simp[hs,g]);exact ax.of (by rw[h10];simp[hw])
  |ok v b'=>
   obtain⟨hb',z,g,rfl⟩:=hn;have g:ev (Rc (aW L) (iv 0) (iv 0))=_:=g;have hk:=cB hW hb' 0 (iv 0);rw[if_pos (he v b' rfl)] at hk;have hw:ev (acA (sv b))=some (0,pgC v++[iv 0,iv 0]):=ax.of (by rw[ais];simp[-Int.natCast_add,hs,g,hk,Tk.cells]);exact ax.of (by rw[h10];simp[hw])
theorem fQ{α:Type}(l:List α)(q:Nat→Q)(r:Rs)(hl:l.length≤dF)
  (hs:∀(i j:Nat) (x:α),IntKind.i64.wrap ((i:Int)+1)=(j:Int)→l[i]? = some x→(i:Int)<(l.length:Int)→x∈l→body PG EE TT ev (q i)=gX (ev (q j)))
  (he:body PG EE TT ev (q l.length)=.ok r):ev (q 0)=some r:=by
 have h:∀(m i:Nat),i+m=l.length→ev (q i)=some r:=by
  intro m
  induction m with
  |zero=>intro i hi;rw[Nat.add_zero] at hi;rw[hi];exact ax.of he
  |succ m ih=>
   intro i hi;have hi':i<l.length:=by omega
   obtain⟨j,hj⟩:∃j,j=i+1:=⟨_,rfl⟩;exact ax.of (by rw[hs i j l[i] (by rw[aJ (by unfold dF at hl;omega)];omega) (List.getElem?_eq_getElem hi') (by omega) (List.getElem_mem hi'),ih j (by omega)];rfl)
 exact h l.length 0 (by omega)
theorem vo(l:List ByteArray)(hl:l.length≤dF):ev (q64 (strs l) (strs l))=some (0,[bv true]):=by
 have lp:ev (yN (iv 0) (strs l) (strs l))=some (1,[]):=fQ l (fun i0=>yN (iv (i0:Int)) (strs l) (strs l)) (1,[]) (by assumption) (fun i0 j0 x e0 hx hi0 hm=>by
   show body PG EE TT ev (yN (iv (i0:Int)) (strs l) (strs l))=gX (ev (yN (iv (j0:Int)) (strs l) (strs l)));rw[ZM];simp[hi0,cK hx]
   skip
   simp[e0]) (by
   show body PG EE TT ev (yN (iv (l.length:Int)) (strs l) (strs l))=_;rw[ZM];simp)
 exact ax.of (by rw[h64];simp[lp])
def OW(t:Ty):Prop:=ev (q9 (iv t.kind) (sv t.name) (iv t.n) (bH t.kids) (iv t.kind) (sv t.name) (iv t.n) (bH t.kids))=some (0,[bv true])
theorem BI(l:List Ty)(hl:l.length≤dF)(h:∀x∈l,OW x):ev (q25 (bH l) (bH l))=some (0,[bv true]):=by
 have lp:ev (yR (iv 0) (bH l) (bH l))=some (1,[]):=fQ l (fun i0=>yR (iv (i0:Int)) (bH l) (bH l)) (1,[]) (by assumption) (fun i0 j0 x e0 hx hi0 hm=>by
   show body PG EE TT ev (yR (iv (i0:Int)) (bH l) (bH l))=gX (ev (yR (iv (j0:Int)) (bH l) (bH l)));rw[ZX];simp[hi0,Zm hx];have g:=h x hm;unfold OW at g;simp[g];simp[e0]) (by
   show body PG EE TT ev (yR (iv (l.length:Int)) (bH l) (bH l))=_;rw[ZX];simp)
 exact ax.of (by rw[h25];simp[lp])
theorem pF{t:Ty}(h:t.Ok):OW t:=by
 induction h with
 |mk k s n ks hl hk ih=>
  have g:=BI ks hl ih;exact ax.of (by rw[h9];simp[Ty.kind,Ty.name,Ty.n,Ty.kids,g])
def abq(p:Pt):Prop:=ev (q91 (iv p.kind) (sv p.name) (iv p.n) (pts p.kids) (iv p.at_) (iv p.kind) (sv p.name) (iv p.n) (pts p.kids) (iv p.at_))=some (0,[bv true])
theorem Yl{p:Pt}(h:p.Ok):abq p:=by
 induction h with
 |mk k s n ks a hl hk ih=>
  have lp:ev (yK (iv 0) (iv k) (sv s) (iv n) (pts ks) (iv a) (iv k) (sv s) (iv n) (pts ks) (iv a))=some (1,[iv k,sv s,iv n,pts ks,iv a,iv k,sv s,iv n,pts ks,iv a]):=fQ ks (fun i0=>yK (iv (i0:Int)) (iv k) (sv s) (iv n) (pts ks) (iv a) (iv k) (sv s) (iv n) (pts ks) (iv a)) (1,[iv k,sv s,iv n,pts ks,iv a,iv k,sv s,iv n,pts ks,iv a]) (by assumption) (fun i0 j0 x e0 hx hi0 hm=>by
   show body PG EE TT ev (yK (iv (i0:Int)) (iv k) (sv s) (iv n) (pts ks) (iv a) (iv k) (sv s) (iv n) (pts ks) (iv a))=gX (ev (yK (iv (j0:Int)) (iv k) (sv s) (iv n) (pts ks) (iv a) (iv k) (sv s) (iv n) (pts ks) (iv a)));rw[Zq];simp[hi0,Dn hx];have g:=ih x hm;unfold abq at g;simp[g];simp[e0]) (by
   show body PG EE TT ev (yK (iv (ks.length:Int)) (iv k) (sv s) (iv n) (pts ks) (iv a) (iv k) (sv s) (iv n) (pts ks) (iv a))=_;rw[Zq];simp)
  exact ax.of (by rw[h91];simp[Pt.kind,Pt.name,Pt.n,Pt.kids,Pt.at_,lp])
def zG(e:Ex):Prop:=ev (q65 (iv e.kind) (sv e.name) (iv e.n) (iv e.t.kind) (sv e.t.name) (iv e.t.n) (bH e.t.kids) (exs e.kids) (dY e.alts) (bn e.binds) (iv e.at_) (iv e.kind) (sv e.name) (iv e.n) (iv e.t.kind) (sv e.t.name) (iv e.t.n) (bH e.t.kids) (exs e.kids) (dY e.alts) (bn e.binds) (iv e.at_))=some (0,[bv true])
theorem qW(l:List Bd)(hl:l.length≤dF)(h:∀x∈l,zG x.e):ev (q37 (bn l) (bn l))=some (0,[bv true]):=by
 have lp:ev (vE (iv 0) (bn l) (bn l))=some (1,[]):=fQ l (fun i0=>vE (iv (i0:Int)) (bn l) (bn l)) (1,[]) (by assumption) (fun i0 j0 x e0 hx hi0 hm=>by
   show body PG EE TT ev (vE (iv (i0:Int)) (bn l) (bn l))=gX (ev (vE (iv (j0:Int)) (bn l) (bn l)));rw[Oe];simp[hi0,gH hx];have g:=h x hm;unfold zG at g;simp[g];simp[e0]) (by
   show body PG EE TT ev (vE (iv (l.length:Int)) (bn l) (bn l))=_;rw[Oe];simp)
 exact ax.of (by rw[h37];simp[lp])
theorem aeM(e:Ex)(h0:e.t.Ok)(l1:e.kids.length≤dF)(h1:∀x∈e.kids,zG x)(l2:e.alts.length≤dF)(h2:∀x∈e.alts,abq x.p∧zG x.e)(l3:e.binds.length≤dF)(h3:∀x∈e.binds,zG x.e):zG e:=by
 have g0:=pF h0;unfold OW at g0;have g3:=qW e.binds l3 h3;have k1:ev (yM (iv 0) (iv e.kind) (sv e.name) (iv e.n) (iv e.t.kind) (sv e.t.name) (iv e.t.n) (bH e.t.kids) (exs e.kids) (dY e.alts) (bn e.binds) (iv e.at_) (iv e.kind) (sv e.name) (iv e.n) (iv e.t.kind) (sv e.t.name) (iv e.t.n) (bH e.t.kids) (exs e.kids) (dY e.alts) (bn e.binds) (iv e.at_))=some (1,[iv e.kind,sv e.name,iv e.n,iv e.t.kind,sv e.t.name,iv e.t.n,bH e.t.kids,exs e.kids,dY e.alts,bn e.binds,iv e.at_,iv e.kind,sv e.name,iv e.n,iv e.t.kind,sv e.t.name,iv e.t.n,bH e.t.kids,exs e.kids,dY e.alts,bn e.binds,iv e.at_]):=fQ e.kids (fun i0=>yM (iv (i0:Int)) (iv e.kind) (sv e.name) (iv e.n) (iv e.t.kind) (sv e.t.name) (iv e.t.n) (bH e.t.kids) (exs e.kids) (dY e.alts) (bn e.binds) (iv e.at_) (iv e.kind) (sv e.name) (iv e.n) (iv e.t.kind) (sv e.t.name) (iv e.t.n) (bH e.t.kids) (exs e.kids) (dY e.alts) (bn e.binds) (iv e.at_)) (1,[iv e.kind,sv e.name,iv e.n,iv e.t.kind,sv e.t.name,iv e.t.n,bH e.t.kids,exs e.kids,dY e.alts,bn e.binds,iv e.at_,iv e.kind,sv e.name,iv e.n,iv e.t.kind,sv e.t.name,iv e.t.n,bH e.t.kids,exs e.kids,dY e.alts,bn e.binds,iv e.at_]) (by assumption) (fun i0 j0 x e0 hx hi0 hm=>by
   show body PG EE TT ev (yM (iv (i0:Int)) (iv e.kind) (sv e.name) (iv e.n) (iv e.t.kind) (sv e.t.name) (iv e.t.n) (bH e.t.kids) (exs e.kids) (dY e.alts) (bn e.binds) (iv e.at_) (iv e.kind) (sv e.name) (iv e.n) (iv e.t.kind) (sv e.t.name) (iv e.t.n) (bH e.t.kids) (exs e.kids) (dY e.alts) (bn e.binds) (iv e.at_))=gX (ev (yM (iv (j0:Int)) (iv e.kind) (sv e.name) (iv e.n) (iv e.t.kind) (sv e.t.name) (iv e.t.n) (bH e.t.kids) (exs e.kids) (dY e.alts) (bn e.binds) (iv e.at_) (iv e.kind) (sv e.name) (iv e.n) (iv e.t.kind) (sv e.t.name) (iv e.t.n) (bH e.t.kids) (exs e.kids) (dY e.alts) (bn e.binds) (iv e.at_)));rw[ZL];simp[hi0,sM hx];have g:=h1 x hm;unfold zG at g;simp[g];simp[e0]) (by
   show body PG EE TT ev (yM (iv (e.kids.length:Int)) (iv e.kind) (sv e.name) (iv e.n) (iv e.t.kind) (sv e.t.name) (iv e.t.n) (bH e.t.kids) (exs e.kids) (dY e.alts) (bn e.binds) (iv e.at_) (iv e.kind) (sv e.name) (iv e.n) (iv e.t.kind) (sv e.t.name) (iv e.t.n) (bH e.t.kids) (exs e.kids) (dY e.alts) (bn e.binds) (iv e.at_))=_;rw[ZL];simp)
 have k2:ev (yL (iv 0) (iv e.kind) (sv e.name) (iv e.n) (iv e.t.kind) (sv e.t.name) (iv e.t.n) (bH e.t.kids) (exs e.kids) (dY e.alts) (bn e.binds) (iv e.at_) (iv e.kind) (sv e.name) (iv e.n) (iv e.t.kind) (sv e.t.name) (iv e.t.n) (bH e.t.kids) (exs e.kids) (dY e.alts) (bn e.binds) (iv e.at_))=some (1,[iv e.kind,sv e.name,iv e.n,iv e.t.kind,sv e.t.name,iv e.t.n,bH e.t.kids,exs e.kids,dY e.alts,bn e.binds,iv e.at_,iv e.kind,sv e.name,iv e.n,iv e.t.kind,sv e.t.name,iv e.t.n,bH e.t.kids,exs e.kids,dY e.alts,bn e.binds,iv e.at_]):=fQ e.alts (fun i0=>yL (iv (i0:Int)) (iv e.kind) (sv e.name) (iv e.n) (iv e.t.kind) (sv e.t.name) (iv e.t.n) (bH e.t.kids) (exs e.kids) (dY e.alts) (bn e.binds) (iv e.at_) (iv e.kind) (sv e.name) (iv e.n) (iv e.t.kind) (sv e.t.name) (iv e.t.n) (bH e.t.kids) (exs e.kids) (dY e.alts) (bn e.binds) (iv e.at_)) (1,[iv e.kind,sv e.name,iv e.n,iv e.t.kind,sv e.t.name,iv e.t.n,bH e.t.kids,exs e.kids,dY e.alts,bn e.binds,iv e.at_,iv e.kind,sv e.name,iv e.n,iv e.t.kind,sv e.t.name,iv e.t.n,bH e.t.kids,exs e.kids,dY e.alts,bn e.binds,iv e.at_]) (by assumption) (fun i0 j0 x e0 hx hi0 hm=>by
   show body PG EE TT ev (yL (iv (i0:Int)) (iv e.kind) (sv e.name) (iv e.n) (iv e.t.kind) (sv e.t.name) (iv e.t.n) (bH e.t.kids) (exs e.kids) (dY e.alts) (bn e.binds) (iv e.at_) (iv e.kind) (sv e.name) (iv e.n) (iv e.t.kind) (sv e.t.name) (iv e.t.n) (bH e.t.kids) (exs e.kids) (dY e.alts) (bn e.binds) (iv e.at_))=gX (ev (yL (iv (j0:Int)) (iv e.kind) (sv e.name) (iv e.n) (iv e.t.kind) (sv e.t.name) (iv e.t.n) (bH e.t.kids) (exs e.kids) (dY e.alts) (bn e.binds) (iv e.at_) (iv e.kind) (sv e.name) (iv e.n) (iv e.t.kind) (sv e.t.name) (iv e.t.n) (bH e.t.kids) (exs e.kids) (dY e.alts) (bn e.binds) (iv e.at_)));rw[ZK];simp[hi0,pW hx];obtain⟨g,g2⟩:=h2 x hm;unfold abq at g;unfold zG at g2;simp[g,g2];simp[e0]) (by
   show body PG EE TT ev (yL (iv (e.alts.length:Int)) (iv e.kind) (sv e.name) (iv e.n) (iv e.t.kind) (sv e.t.name) (iv e.t.n) (bH e.t.kids) (exs e.kids) (dY e.alts) (bn e.binds) (iv e.at_) (iv e.kind) (sv e.name) (iv e.n) (iv e.t.kind) (sv e.t.name) (iv e.t.n) (bH e.t.kids) (exs e.kids) (dY e.alts) (bn e.binds) (iv e.at_))=_;rw[ZK];simp)
 exact ax.of (by
  rw[h65];simp;simp[g0];simp[g3];simp[k1];simp[k2])
mutual
theorem Bv:∀(e:Ex),e.Ok→zG e
 |.mk k s n t ks xs bs a,h=>by
  rw[Ex.Ok] at h;exact aeM (.mk k s n t ks xs bs a) h.1 h.2.1.1 (LC ks h.2.1.2) h.2.2.1.1 (Mx xs h.2.2.1.2) h.2.2.2.1 (Mk bs h.2.2.2.2)
theorem LC:∀(l:List Ex),Ex.OkL l→∀x∈l,zG x
 |[],_,x,hx=>by cases hx
 |y::l,h,x,hx=>by
  rw[Ex.OkL] at h;exact(List.mem_cons.1 hx).elim (fun e=>e ▸ Bv y h.1) (fun hx=>LC l h.2 x hx)
theorem Mx:∀(l:List Al),Al.OkL l→∀x∈l,abq x.p∧zG x.e
 |[],_,x,hx=>by cases hx
 |.mk p e::l,h,x,hx=>by
  rw[Al.OkL,Al.Ok] at h;exact(List.mem_cons.1 hx).elim (fun q=>q ▸ ⟨Yl h.1.1,Bv e h.1.2⟩) (fun hx=>Mx l h.2 x hx)
theorem Mk:∀(l:List Bd),Bd.OkL l→∀x∈l,zG x.e
 |[],_,x,hx=>by cases hx
 |.mk s e a::l,h,x,hx=>by
  rw[Bd.OkL,Bd.Ok] at h;exact(List.mem_cons.1 hx).elim (fun q=>q ▸ Bv e h.1) (fun hx=>Mk l h.2 x hx)
end
theorem Jt{b:Bd}(h:b.Ok):zG b.e:=by
 cases b with
 |mk s e a=>rw[Bd.Ok] at h;exact Bv e h
theorem Vd{v:Dt}(h:v.Ok):ev (q34 (sv v.name) (strs v.params) (qb v.cons) (strs v.deriv) (iv v.at_) (sv v.name) (strs v.params) (qb v.cons) (strs v.deriv) (iv v.at_))=some (0,[bv true]):=by
 obtain⟨h1,⟨h2,h3⟩,h4⟩:=h;have g1:=vo v.params h1;have g2:=vo v.deriv h4;have lp:ev (yQ (iv 0) (sv v.name) (strs v.params) (qb v.cons) (strs v.deriv) (iv v.at_) (sv v.name) (strs v.params) (qb v.cons) (strs v.deriv) (iv v.at_))=some (1,[sv v.name,strs v.params,qb v.cons,strs v.deriv,iv v.at_,sv v.name,strs v.params,qb v.cons,strs v.deriv,iv v.at_]):=fQ v.cons (fun i0=>yQ (iv (i0:Int)) (sv v.name) (strs v.params) (qb v.cons) (strs v.deriv) (iv v.at_) (sv v.name) (strs v.params) (qb v.cons) (strs v.deriv) (iv v.at_)) (1,[sv v.name,strs v.params,qb v.cons,strs v.deriv,iv v.at_,sv v.name,strs v.params,qb v.cons,strs v.deriv,iv v.at_]) (by assumption) (fun i0 j0 x e0 hx hi0 hm=>by
   show body PG EE TT ev (yQ (iv (i0:Int)) (sv v.name) (strs v.params) (qb v.cons) (strs v.deriv) (iv v.at_) (sv v.name) (strs v.params) (qb v.cons) (strs v.deriv) (iv v.at_))=gX (ev (yQ (iv (j0:Int)) (sv v.name) (strs v.params) (qb v.cons) (strs v.deriv) (iv v.at_) (sv v.name) (strs v.params) (qb v.cons) (strs v.deriv) (iv v.at_)));rw[ZW];simp[hi0,Dr hx];have g:=BI x.args (h3 x hm).1 (fun y hy=>pF ((h3 x hm).2 y hy));simp[g];simp[e0]) (by
   show body PG EE TT ev (yQ (iv (v.cons.length:Int)) (sv v.name) (strs v.params) (qb v.cons) (strs v.deriv) (iv v.at_) (sv v.name) (strs v.params) (qb v.cons) (strs v.deriv) (iv v.at_))=_;rw[ZW];simp)
 exact ax.of (by
  rw[yw];simp;simp[g1];simp[g2];simp[lp])
theorem OB{v:Cl}(h:v.Ok):ev (q35 (sv v.name) (sv v.var) (strs v.supers) (mJ v.methods) (bn v.defaults) (iv v.at_) (sv v.name) (sv v.var) (strs v.supers) (mJ v.methods) (bn v.defaults) (iv v.at_))=some (0,[bv true]):=by
 obtain⟨h1,⟨h2,h3⟩,h4,h5⟩:=h;have g1:=vo v.supers h1;have g2:=qW v.defaults h4 (fun x hx=>Jt (h5 x hx));have lp:ev (yP (iv 0) (sv v.name) (sv v.var) (strs v.supers) (mJ v.methods) (bn v.defaults) (iv v.at_) (sv v.name) (sv v.var) (strs v.supers) (mJ v.methods) (bn v.defaults) (iv v.at_))=some (1,[sv v.name,sv v.var,strs v.supers,mJ v.methods,bn v.defaults,iv v.at_,sv v.name,sv v.var,strs v.supers,mJ v.methods,bn v.defaults,iv v.at_]):=fQ v.methods (fun i0=>yP (iv (i0:Int)) (sv v.name) (sv v.var) (strs v.supers) (mJ v.methods) (bn v.defaults) (iv v.at_) (sv v.name) (sv v.var) (strs v.supers) (mJ v.methods) (bn v.defaults) (iv v.at_)) (1,[sv v.name,sv v.var,strs v.supers,mJ v.methods,bn v.defaults,iv v.at_,sv v.name,sv v.var,strs v.supers,mJ v.methods,bn v.defaults,iv v.at_]) (by assumption) (fun i0 j0 x e0 hx hi0 hm=>by
   show body PG EE TT ev (yP (iv (i0:Int)) (sv v.name) (sv v.var) (strs v.supers) (mJ v.methods) (bn v.defaults) (iv v.at_) (sv v.name) (sv v.var) (strs v.supers) (mJ v.methods) (bn v.defaults) (iv v.at_))=gX (ev (yP (iv (j0:Int)) (sv v.name) (sv v.var) (strs v.supers) (mJ v.methods) (bn v.defaults) (iv v.at_) (sv v.name) (sv v.var) (strs v.supers) (mJ v.methods) (bn v.defaults) (iv v.at_)));rw[ZV];simp[hi0,Dp hx];have g:=pF (h3 x hm);unfold OW at g;simp[g];simp[e0]) (by
   show body PG EE TT ev (yP (iv (v.methods.length:Int)) (sv v.name) (sv v.var) (strs v.supers) (mJ v.methods) (bn v.defaults) (iv v.at_) (sv v.name) (sv v.var) (strs v.supers) (mJ v.methods) (bn v.defaults) (iv v.at_))=_;rw[ZV];simp)
 exact ax.of (by
  rw[h35];simp;simp[g1];simp[lp];simp[g2])
theorem U5{v:It}(h:v.Ok):ev (q36 (sv v.cls) (iv v.head.kind) (sv v.head.name) (iv v.head.n) (bH v.head.kids) (rQ v.ctx) (bn v.binds) (iv v.at_) (sv v.cls) (iv v.head.kind) (sv v.head.name) (iv v.head.n) (bH v.head.kids) (rQ v.ctx) (bn v.binds) (iv v.at_))=some (0,[bv true]):=by
 obtain⟨h1,⟨h2,h3⟩,h4,h5⟩:=h;have g1:=pF h1;unfold OW at g1;have g2:=qW v.binds h4 (fun x hx=>Jt (h5 x hx));have lp:ev (yO (iv 0) (sv v.cls) (iv v.head.kind) (sv v.head.name) (iv v.head.n) (bH v.head.kids) (rQ v.ctx) (bn v.binds) (iv v.at_) (sv v.cls) (iv v.head.kind) (sv v.head.name) (iv v.head.n) (bH v.head.kids) (rQ v.ctx) (bn v.binds) (iv v.at_))=some (1,[sv v.cls,iv v.head.kind,sv v.head.name,iv v.head.n,bH v.head.kids,rQ v.ctx,bn v.binds,iv v.at_,sv v.cls,iv v.head.kind,sv v.head.name,iv v.head.n,bH v.head.kids,rQ v.ctx,bn v.binds,iv v.at_]):=fQ v.ctx (fun i0=>yO (iv (i0:Int)) (sv v.cls) (iv v.head.kind) (sv v.head.name) (iv v.head.n) (bH v.head.kids) (rQ v.ctx) (bn v.binds) (iv v.at_) (sv v.cls) (iv v.head.kind) (sv v.head.name) (iv v.head.n) (bH v.head.kids) (rQ v.ctx) (bn v.binds) (iv v.at_)) (1,[sv v.cls,iv v.head.kind,sv v.head.name,iv v.head.n,bH v.head.kids,rQ v.ctx,bn v.binds,iv v.at_,sv v.cls,iv v.head.kind,sv v.head.name,iv v.head.n,bH v.head.kids,rQ v.ctx,bn v.binds,iv v.at_]) (by assumption) (fun i0 j0 x e0 hx hi0 hm=>by
   show body PG EE TT ev (yO (iv (i0:Int)) (sv v.cls) (iv v.head.kind) (sv v.head.name) (iv v.head.n) (bH v.head.kids) (rQ v.ctx) (bn v.binds) (iv v.at_) (sv v.cls) (iv v.head.kind) (sv v.head.name) (iv v.head.n) (bH v.head.kids) (rQ v.ctx) (bn v.binds) (iv v.at_))=gX (ev (yO (iv (j0:Int)) (sv v.cls) (iv v.head.kind) (sv v.head.name) (iv v.head.n) (bH v.head.kids) (rQ v.ctx) (bn v.binds) (iv v.at_) (sv v.cls) (iv v.head.kind) (sv v.head.name) (iv v.head.n) (bH v.head.kids) (rQ v.ctx) (bn v.binds) (iv v.at_)));rw[ZU];simp[hi0,Zn hx];have g:=pF (show x.t.Ok from h3 x hm);unfold OW at g;simp[g];simp[e0]) (by
   show body PG EE TT ev (yO (iv (v.ctx.length:Int)) (sv v.cls) (iv v.head.kind) (sv v.head.name) (iv v.head.n) (bH v.head.kids) (rQ v.ctx) (bn v.binds) (iv v.at_) (sv v.cls) (iv v.head.kind) (sv v.head.name) (iv v.head.n) (bH v.head.kids) (rQ v.ctx) (bn v.binds) (iv v.at_))=_;rw[ZU];simp)
 exact ax.of (by
  rw[h36];simp;simp[g1];simp[lp];simp[g2])
theorem FD(d:List Dt)(c:List Cl)(i:List It)(b:List Bd)(hd:d.length≤dF)(hd':∀x∈d,x.Ok)(hc:c.length≤dF)(hc':∀x∈c,x.Ok)(hi:i.length≤dF)(hi':∀x∈i,x.Ok)(hb:b.length≤dF)(hb':∀x∈b,x.Ok):ev (q12 (jm d) (cls c) (its i) (bn b) (jm d) (cls c) (its i) (bn b))=some (0,[bv true]):=by
 have g:=qW b hb (fun x hx=>Jt (hb' x hx));have k1:ev (vH (iv 0) (jm d) (cls c) (its i) (bn b) (jm d) (cls c) (its i) (bn b))=some (1,[jm d,cls c,its i,bn b,jm d,cls c,its i,bn b]):=fQ d (fun i0=>vH (iv (i0:Int)) (jm d) (cls c) (its i) (bn b) (jm d) (cls c) (its i) (bn b)) (1,[jm d,cls c,its i,bn b,jm d,cls c,its i,bn b]) (by assumption) (fun i0 j0 x e0 hx hi0 hm=>by
   show body PG EE TT ev (vH (iv (i0:Int)) (jm d) (cls c) (its i) (bn b) (jm d) (cls c) (its i) (bn b))=gX (ev (vH (iv (j0:Int)) (jm d) (cls c) (its i) (bn b) (jm d) (cls c) (its i) (bn b)));rw[Oi];simp[hi0,Dq hx];have g:=Vd (hd' x hm);simp[g];simp[e0]) (by
   show body PG EE TT ev (vH (iv (d.length:Int)) (jm d) (cls c) (its i) (bn b) (jm d) (cls c) (its i) (bn b))=_;rw[Oi];simp)
 have k2:ev (vG (iv 0) (jm d) (cls c) (its i) (bn b) (jm d) (cls c) (its i) (bn b))=some (1,[jm d,cls c,its i,bn b,jm d,cls c,its i,bn b]):=fQ c (fun i0=>vG (iv (i0:Int)) (jm d) (cls c) (its i) (bn b) (jm d) (cls c) (its i) (bn b)) (1,[jm d,cls c,its i,bn b,jm d,cls c,its i,bn b]) (by assumption) (fun i0 j0 x e0 hx hi0 hm=>by
   show body PG EE TT ev (vG (iv (i0:Int)) (jm d) (cls c) (its i) (bn b) (jm d) (cls c) (its i) (bn b))=gX (ev (vG (iv (j0:Int)) (jm d) (cls c) (its i) (bn b) (jm d) (cls c) (its i) (bn b)));rw[Oh];simp[hi0,sN hx];have g:=OB (hc' x hm);simp[g];simp[e0]) (by
   show body PG EE TT ev (vG (iv (c.length:Int)) (jm d) (cls c) (its i) (bn b) (jm d) (cls c) (its i) (bn b))=_;rw[Oh];simp)
 have k3:ev (vF (iv 0) (jm d) (cls c) (its i) (bn b) (jm d) (cls c) (its i) (bn b))=some (1,[jm d,cls c,its i,bn b,jm d,cls c,its i,bn b]):=fQ i (fun i0=>vF (iv (i0:Int)) (jm d) (cls c) (its i) (bn b) (jm d) (cls c) (its i) (bn b)) (1,[jm d,cls c,its i,bn b,jm d,cls c,its i,bn b]) (by assumption) (fun i0 j0 x e0 hx hi0 hm=>by
   show body PG EE TT ev (vF (iv (i0:Int)) (jm d) (cls c) (its i) (bn b) (jm d) (cls c) (its i) (bn b))=gX (ev (vF (iv (j0:Int)) (jm d) (cls c) (its i) (bn b) (jm d) (cls c) (its i) (bn b)));rw[Og];simp[hi0,sK hx];have g:=U5 (hi' x hm);simp[g];simp[e0]) (by
   show body PG EE TT ev (vF (iv (i.length:Int)) (jm d) (cls c) (its i) (bn b) (jm d) (cls c) (its i) (bn b))=_;rw[Og];simp)
 exact ax.of (by
  rw[h12];simp;simp[k1];simp[k2];simp[k3];simp[g])
mutual
def Pt.aw:Pt→Nat
 |.mk _ _ _ ks _=>1+Pt.awL ks
def Pt.awL:List Pt→Nat
 |[]=>0
 |p::l=>p.aw+Pt.awL l
end
mutual
def Ex.aw:Ex→Nat
 |.mk _ _ _ _ ks xs bs _=>1+Ex.awL ks+Al.awL xs+Bd.awL bs
def Al.aw:Al→Nat
 |.mk p e=>p.aw+e.aw
def Bd.aw:Bd→Nat
 |.mk _ e _=>1+e.aw
def Ex.awL:List Ex→Nat
 |[]=>0
 |x::l=>x.aw+Ex.awL l
def Al.awL:List Al→Nat
 |[]=>0
 |x::l=>x.aw+Al.awL l
def Bd.awL:List Bd→Nat
 |[]=>0
 |x::l=>x.aw+Bd.awL l
end
theorem Pt.awL_app:∀(a b:List Pt),Pt.awL (a++b)=Pt.awL a+Pt.awL b
 |[],b=>by rw[List.nil_append,Pt.awL];omega
 |x::a,b=>by rw[List.cons_append,Pt.awL,Pt.awL,Pt.awL_app a b];omega
theorem Ex.awL_app:∀(a b:List Ex),Ex.awL (a++b)=Ex.awL a+Ex.awL b
 |[],b=>by rw[List.nil_append,Ex.awL];omega
 |x::a,b=>by rw[List.cons_append,Ex.awL,Ex.awL,Ex.awL_app a b];omega
theorem Al.awL_app:∀(a b:List Al),Al.awL (a++b)=Al.awL a+Al.awL b
 |[],b=>by rw[List.nil_append,Al.awL];omega
 |x::a,b=>by rw[List.cons_append,Al.awL,Al.awL,Al.awL_app a b];omega
theorem Bd.awL_app:∀(a b:List Bd),Bd.awL (a++b)=Bd.awL a+Bd.awL b
 |[],b=>by rw[List.nil_append,Bd.awL];omega
 |x::a,b=>by rw[List.cons_append,Bd.awL,Bd.awL,Bd.awL_app a b];omega
@[simp] theorem Pt.awL_one(x:Pt):Pt.awL [x]=x.aw:=by rw[Pt.awL,Pt.awL];rfl
@[simp] theorem Ex.awL_one(x:Ex):Ex.awL [x]=x.aw:=by rw[Ex.awL,Ex.awL];rfl
@[simp] theorem Al.awL_one(x:Al):Al.awL [x]=x.aw:=by rw[Al.awL,Al.awL];rfl
@[simp] theorem Bd.awL_one(x:Bd):Bd.awL [x]=x.aw:=by rw[Bd.awL,Bd.awL];rfl
@[simp] theorem Pt.awL_nil:Pt.awL []=0:=by rw[Pt.awL]
@[simp] theorem Ex.awL_nil:Ex.awL []=0:=by rw[Ex.awL]
@[simp] theorem Al.awL_nil:Al.awL []=0:=by rw[Al.awL]
@[simp] theorem Bd.awL_nil:Bd.awL []=0:=by rw[Bd.awL]
@[simp] theorem Ex.awL_cons(x:Ex)(l:List Ex):Ex.awL (x::l)=x.aw+Ex.awL l:=by rw[Ex.awL]
@[simp] theorem Bd.awL_cons(x:Bd)(l:List Bd):Bd.awL (x::l)=x.aw+Bd.awL l:=by rw[Bd.awL]
@[simp] theorem aiE(k:Int)(s:ByteArray)(n:Int)(ks:List Ex)(a:Int):(iK k s n ks a).aw=1+Ex.awL ks:=by rw[iK,Ex.aw];simp
theorem ah1(t:Tk)(x y:Ex):(opE t x y).aw≤3+x.aw+y.aw:=by
 unfold opE;split
 ·simp;omega
 ·split
  ·simp;omega
  ·simp;omega
theorem JP(e:Ex):∀(l:List (ByteArray×Int)),(uO l e).aw=l.length+e.aw
 |[]=>by simp[uO]
 |p::l=>by
  have:=JP e l;unfold uO at this ⊢;rw[List.foldr_cons,aiE,Ex.awL_one,this,List.length_cons];omega
def G8(l:List Ex)(i:Nat):Nat:=Ex.awL (l.take i)
theorem Yj{l:List Ex}{i:Nat}(h:i<l.length):G8 l (i+1)=G8 l i+(uK l i).aw:=by
 unfold G8 uK;rw[List.take_add_one,Ex.awL_app,List.getElem?_eq_getElem h];simp
theorem Di(V:Nat→Nat)(to:Nat):∀(n i a:Nat),a<to→a≤i→a≤jw V to n i a∧jw V to n i a<to
 |0,i,a,h,h2=>by rw[jw];omega
 |n+1,i,a,h,h2=>by
  rw[jw];split
  ·rename_i hi
   split
   ·have:=Di V to n (i+1) i hi (by omega);omega
   ·exact Di V to n (i+1) a h (by omega)
  ·omega
theorem zq(l:List Ex)(ops:List Tk):∀(m f to:Nat),f≤to→to<l.length→to-f≤m→(fJ l ops m f to).aw+G8 l f≤G8 l (to+1)+3*(to-f)
 |0,f,to,h,h1,h2=>by
  obtain rfl:f=to:=by omega
  rw[fJ,Yj h1];omega
 |m+1,f,to,h,h1,h2=>by
  rw[fJ];split
  ·rename_i hf
   subst hf;rw[Yj h1];omega
  ·rename_i hf
   have hl:=Di (Au ops) to to (f+1) f (by omega) (by omega);simp only;generalize jw (Au ops) to to (f+1) f=s at *;have h3:=zq l ops m f s (by omega) (by omega) (by omega);have h4:=zq l ops m (s+1) to (by omega) (by omega) (by omega);have h5:=ah1 (opAt ops s) (fJ l ops m f s) (fJ l ops m (s+1) to);omega
def jA{α:Type}(g:GM α)(Q:α→Nat→Prop):Prop:=∀(d:Int) (a:Nat) (v:α) (b:Nat),g d a=.ok v b→a≤b∧Q v (b-a)
section
variable{α β:Type}{L:List Tk}{g A B:GM α}{Q:α→Nat→Prop}
theorem jA.pure{v:α}(h:Q v 0):jA (aS v) Q:=fun d a w b hw=>by cases hw;exact⟨Nat.le_refl _,by rw[Nat.sub_self];exact h⟩
theorem jA.bind{p:GM β}{k:β→GM α}{P:β→Nat→Prop}(hp:jA p P)(hk:∀x n,P x n→jA (k x) (fun v n'=>Q v (n+n'))):jA (ak p k) Q:=by
 intro d a v b h;unfold ak at h;cases hr:p d a with
 |out=>rw[hr] at h;cases h
 |err e w=>rw[hr] at h;cases h
 |ok x c=>
  rw[hr] at h;obtain⟨h1,h2⟩:=hp d a x c hr;obtain⟨h3,h4⟩:=hk x _ h2 d c v b h;exact⟨by omega,by rw[show b-a=c-a+(b-c) by omega];exact h4⟩
theorem jA.up(h:jA g fun v n=>Q v (1+n)):jA (Av g) Q:=by
 intro d a v b hr;obtain⟨h1,h2⟩:=h d (a+1) v b hr;exact⟨by omega,by rw[show b-a=1+(b-(a+1)) by omega];exact h2⟩
theorem jA.may{x:ByteArray}(hA:jA A fun v n=>Q v (1+n))(hB:jA B Q):jA (dP L x A B) Q:=by
 intro d a v b hr;unfold dP at hr;split at hr
 ·exact jA.up hA d a v b hr
 ·exact hB d a v b hr
theorem jA.kind{k:Int}(hA:jA A Q)(hB:jA B Q):jA (kg L k A B) Q:=by
 intro d a v b hr;unfold kg at hr;split at hr
 ·exact hA d a v b hr
 ·exact hB d a v b hr
theorem jA.st{w:Int}(hA:jA A Q)(hB:jA B Q):jA (Vt L w A B) Q:=by
 intro d a v b hr;unfold Vt at hr;split at hr
 ·exact hA d a v b hr
 ·exact hB d a v b hr
theorem jA.next{k:Tk→GM α}(h:∀t,jA (k t) Q):jA (mR L k) Q:=fun d a v b hr=>h _ d a v b hr
theorem jA.deep(h:jA g Q):jA (rE L g) Q:=by
 intro d a v b hr;unfold rE at hr;split at hr
 ·cases hr
 ·exact h _ a v b hr
theorem jA.if'{c:Prop}[Decidable c](hA:jA A Q)(hB:jA B Q):jA (if c then A else B) Q:=by
 split
 ·exact hA
 ·exact hB
theorem jA.take(k:Int)(x:ByteArray){f:Tk→GM α}(h:∀t,jA (f t) fun v n=>Q v (1+n)):jA (ak (aV L k x) f) Q:=by
 refine .bind (P:=fun _ n=>n=1) ?_ fun t n hn=>?_
 ·intro d a v b hr
  unfold aV at hr;split at hr
  ·cases hr;exact⟨by omega,by omega⟩
  ·cases hr
 ·subst hn;exact h t
theorem jA.mono{P:α→Nat→Prop}(h:jA g P)(hq:∀v n,P v n→Q v n):jA g Q:=fun d a v b hr=>⟨(h d a v b hr).1,hq _ _ (h d a v b hr).2⟩
end
section
variable(L:List Tk)
def Tt{α:Type}(_:α)(_:Nat):Prop:=True
theorem xU:∀m,jA (iQ L m) Tt∧jA (fM L m) Tt∧∀l,jA (cu L m l) Tt
 |0=>⟨fun d a v b h=>(by rw[iQ] at h;cases h),fun d a v b h=>(by rw[fM] at h;cases h),fun l d a v b h=>(by unfold cu at h;rw[xZ] at h;cases h)⟩
 |m+1=>by
  obtain⟨i1,i2,i3⟩:=xU m;refine⟨?_,?_,fun l=>?_⟩
  ·rw[oh]
   refine .deep (.next fun t=>.bind (P:=Tt) (.if' (.up (.bind (i3 []) fun _ _ _=>.pure trivial)) i2) fun x n _=>.may (.bind i1 fun _ _ _=>.pure trivial) (.pure trivial))
  ·rw[qc]
   exact .next fun t=>.if' (.up (.pure trivial)) (.if' (.up (.pure trivial)) (.take _ _ fun _=>.may (.pure trivial) (.bind i1 fun _ _ _=>.take _ _ fun _=>.pure trivial)))
  ·rw[iG]
   exact .st (.bind i2 fun x _ _=>i3 _) (.pure trivial)
theorem aaP:∀m,jA (jQ L m) (fun p n=>p.aw≤n∧1≤n)∧jA (nZ L m) (fun p n=>p.aw≤n∧1≤n)∧∀l,jA (jr L m l) (fun v n=>Pt.awL v≤Pt.awL l+n)
 |0=>⟨fun d a v b h=>(by rw[jQ] at h;cases h),fun d a v b h=>(by rw[nZ] at h;cases h),fun l d a v b h=>(by rw[jr] at h;cases h)⟩
 |m+1=>by
  obtain⟨i1,i2,i3⟩:=aaP m;have hp:∀(k:Int) (s:ByteArray) (n a:Int),(Pt.mk k s n [] a).aw=1:=fun k s n a=>by rw[Pt.aw];simp
  refine⟨?_,?_,fun l=>?_⟩
  ·rw[jQ]
   refine .next fun t=>.if' (.up (.pure (by simp[hp]))) (.if' (.up (.pure (by simp[hp]))) (.if' (.up (.pure (by simp[hp]))) (.may (.pure (by simp[hp])) (.take _ _ fun _=>.may (.pure (by simp[hp])) (.bind i2 fun x n hx=>.take _ _ fun _=>.pure ?_)))))
   omega
  ·rw[nZ]
   refine .deep (.next fun t=>.bind i1 fun x n hx=>.if' (.bind (i3 []) fun l n' hl=>.pure ?_) (.pure ?_))
   ·rw[Pt.aw];simp at hl;omega
   ·simpa using hx
  ·rw[jr]
   refine .st (.bind i1 fun x n hx=>(i3 _).mono fun v n' h=>?_) (.pure (by omega));rw[Pt.awL_app,Pt.awL_one] at h;omega
structure CEx(m:Nat):Prop where
 exp:jA (fG L m) fun e n=>e.aw+2≤3*n
 ops:∀l o,l.length=o.length+1→jA (o9 L m l o) fun r n=>Ex.awL r.1+3*r.2.length≤Ex.awL l+3*o.length+3*n∧r.1.length=r.2.length+1
 opr:jA (fE L m) fun e n=>e.aw+2≤3*n
 apps:∀w x,jA (jy L m w x) fun e n=>e.aw≤x.aw+3*n
 lam:∀w,jA (gV L m w) fun e n=>e.aw+2≤3*n
 lams:∀l,jA (gG L m l) fun e n=>e.aw+2≤l.length+3*n
 let_:∀k w,jA (qI L m k w) fun e n=>e.aw≤3*n
 bd:jA (Ap L m) fun x n=>x.aw≤3*n
 ands:∀l,jA (eX L m l) fun v n=>Bd.awL v≤Bd.awL l+3*n
 atom:jA (iW L m) fun e n=>e.aw+2≤3*n
 alts:∀l,jA (ku L m l) fun v n=>Al.awL v≤Al.awL l+3*n
theorem aaR:jA (zY L) Tt:=by
 unfold zY;refine .may (.take _ _ fun t=>.take _ _ fun _=>.pure trivial) ?_;intro d a v b h;unfold aV at h;split at h
 ·cases h;exact⟨by omega,trivial⟩
 ·cases h
theorem ae4{l:List Ex}{o:List Tk}(h:l.length=o.length+1):jA (qQ l o) fun e n=>e.aw≤Ex.awL l+3*o.length:=by
 unfold qQ;split
 ·intro d a v b h;cases h
 ·refine .pure ?_
  have:=zq l o o.length 0 o.length (Nat.zero_le _) (by omega) (by omega);have e1:G8 l 0=0:=by simp[G8]
  have e2:G8 l (o.length+1)=Ex.awL l:=by unfold G8;rw[List.take_of_length_le (by omega)]
  rw[e1,e2] at this;omega
theorem Jh:∀m,CEx L m
 |0=>⟨fun d a v b h=>(by rw[fG] at h;cases h),fun l o _ d a v b h=>(by rw[o9] at h;cases h),fun d a v b h=>(by rw[fE] at h;cases h),fun w x d a v b h=>(by rw[jy] at h;cases h),fun w d a v b h=>(by rw[gV] at h;cases h),fun l d a v b h=>(by rw[gG] at h;cases h),fun k w d a v b h=>(by rw[qI] at h;cases h),fun d a v b h=>(by rw[Ap] at h;cases h),fun l d a v b h=>(by rw[eX] at h;cases h),fun d a v b h=>(by rw[iW] at h;cases h),fun l d a v b h=>(by rw[ku] at h;cases h)⟩
 |m+1=>by
  have ih:=Jh m;constructor
  ·rw[fG]
   refine .deep (.bind ih.opr fun x n hx=>.bind (ih.ops [x] [] rfl) fun r n2 hr=>(ae4 hr.2).mono fun v n3 hv=>?_);have:=hr.1;simp at this;omega
  ·intro l o hl
   rw[o9];refine .kind (.take _ _ fun t=>.bind ih.opr fun x n hx=>(ih.ops _ _ (by simp[hl])).mono fun v n2 hv=>?_) (.pure ⟨by simp only;omega,hl⟩);rw[Ex.awL_app,Ex.awL_one,List.length_append,List.length_singleton] at hv;omega
  ·rw[fE]
   refine .next fun t=>.may ((ih.lam _).mono fun v n h=>by omega) (.may (.may ((ih.let_ _ _).mono fun v n h=>by omega) ((ih.let_ _ _).mono fun v n h=>by omega)) (.may ?_ ?_))
   ·refine .bind ih.exp fun a n1 h1=>.take _ _ fun _=>.bind ih.exp fun b n2 h2=>.take _ _ fun _=>.bind ih.exp fun c n3 h3=>.pure ?_
    simp;omega
   ·refine .bind ih.atom fun x n hx=>(ih.apps _ _).mono fun v n2 h=>by omega
  ·intro w x
   rw[jy];refine .st (.bind ih.atom fun y n hy=>(ih.apps _ _).mono fun v n2 h=>?_) (.pure (by omega));simp at h;omega
  ·intro w
   rw[gV];refine .take _ _ fun t=>(ih.lams _).mono fun v n h=>?_
   simp at h;omega
  ·intro l
   rw[gG];refine .kind (.next fun t=>.up ((ih.lams _).mono fun v n h=>?_)) (.take _ _ fun _=>.bind ih.exp fun e n he=>.pure ?_)
   ·simp at h;omega
   ·rw[JP];omega
  ·intro k w
   rw[qI];refine .bind ih.bd fun b n hb=>.bind (ih.ands [b]) fun l n2 hl=>.take _ _ fun _=>.bind ih.exp fun e n3 he=>.pure ?_
   rw[Ex.aw];simp at hl ⊢;omega
  ·rw[Ap]
   refine .bind (aaR L) fun t n _=>.take _ _ fun _=>.bind ih.exp fun e n3 he=>.pure ?_
   rw[Bd.aw];omega
  ·intro l
   rw[eX];refine .may (.bind ih.bd fun b n hb=>(ih.ands _).mono fun v n2 h=>?_) (.pure (by omega));rw[Bd.awL_app,Bd.awL_one] at h;omega
  ·rw[iW]
   refine .next fun t=>.if' (.up (.pure (by simp))) (.if' (.up (.pure (by simp))) (.if' (.up (.pure (by simp))) (.if' (.up (.pure (by simp))) (.may ?_ (.take _ _ fun _=>.may (.pure (by simp)) (.kind (.take _ _ fun o=>.take _ _ fun _=>.pure (by simp)) (.bind ih.exp fun y n hy=>.may (.bind (xU L m).1 fun ty n2 _=>.take _ _ fun _=>.pure ?_) (.take _ _ fun _=>.pure ?_))))))))
   ·refine .bind ih.exp fun x n hx=>.take _ _ fun _=>.bind (ih.alts []) fun l n2 hl=>.take _ _ fun _=>.pure ?_
    rw[Ex.aw];simp at hl ⊢;omega
   ·rw[Ex.aw];simp;omega
   ·omega
  ·intro l
   rw[ku];have key:∀(p:Pt) (e:Ex),Al.awL (l++[.mk p e])=Al.awL l+(p.aw+e.aw):=fun p e=>by rw[Al.awL_app,Al.awL_one,Al.aw]
   refine .bind (aaP L m).2.1 fun p n hp=>.take _ _ fun _=>.bind ih.exp fun e n2 he=>.may ((ih.alts _).mono fun v n3 h=>?_) (.pure ?_)
   ·rw[key] at h;omega
   ·rw[key];omega
def Dt.aw(x:Dt):Nat:=1+x.cons.length
def Cl.aw(x:Cl):Nat:=1+x.methods.length+Bd.awL x.defaults
def It.aw(x:It):Nat:=1+Bd.awL x.binds
def bU{α:Type}(f:α→Nat):List α→Nat
 |[]=>0
 |x::l=>f x+bU f l
theorem nK{α:Type}(f:α→Nat):∀(a b:List α),bU f (a++b)=bU f a+bU f b
 |[],b=>by rw[List.nil_append,bU];omega
 |x::a,b=>by rw[List.cons_append,bU,bU,nK f a b];omega
def Pg.aw(p:Pg):Nat:=bU Dt.aw p.datas+bU Cl.aw p.classes+bU It.aw p.insts+Bd.awL p.binds
theorem aaQ:∀m l,jA (j5 L m l) Tt
 |0,l=>fun d a v b h=>(by rw[j5] at h;cases h)
 |m+1,l=>by rw[j5];exact .kind (.take _ _ fun t=>aaQ m _) (.pure trivial)
theorem agk:∀m l,jA (o5 L m l) Tt
 |0,l=>fun d a v b h=>(by rw[o5] at h;cases h)
 |m+1,l=>by rw[o5];exact .may (.take _ _ fun t=>agk m _) (.pure trivial)
theorem L9(m:Nat):jA (jR L m) Tt:=by unfold jR;exact .take _ _ fun t=>agk L m _
theorem aaT:∀m l,jA (iV L m l) (fun v n=>v.length≤l.length+n)
 |0,l=>fun d a v b h=>(by rw[iV] at h;cases h)
 |m+1,l=>by
  rw[iV];refine .take _ _ fun c=>.bind ((xU L m).2.2 []) fun tl n _=>.may ((aaT m _).mono fun v n2 h=>?_) (.pure ?_)
  ·simp at h;omega
  ·simp
theorem ai1(m:Nat):jA (xQ L m) (fun x n=>x.aw≤3*n):=by
 unfold xQ;refine .take _ _ fun t=>.bind (aaQ L m []) fun ps n1 _=>.take _ _ fun _=>.bind (aaT L m []) fun cs n2 h=>.may (.take _ _ fun _=>.bind (L9 L m) fun ds n3 _=>.take _ _ fun _=>.pure ?_) (.pure ?_)
 ·simp at h;simp[Dt.aw];omega
 ·simp at h;simp[Dt.aw];omega
theorem Jg:∀m ms ds,jA (gY L m ms ds) (fun v n=>v.1.length+Bd.awL v.2≤ms.length+Bd.awL ds+3*n)
 |0,ms,ds=>fun d a v b h=>(by rw[gY] at h;cases h)
 |m+1,ms,ds=>by
  rw[gY];refine .may (.pure (by simp only;omega)) (.may (.bind (Jh L m).bd fun x n hx=>.take _ _ fun _=>(Jg m _ _).mono fun v n2 h=>?_) (.bind (aaR L) fun t n1 _=>.take _ _ fun _=>.bind (xU L m).1 fun ty n2 _=>.take _ _ fun _=>(Jg m _ _).mono fun v n3 h=>?_))
  ·rw[Bd.awL_app,Bd.awL_one] at h;omega
  ·simp at h;omega
theorem ae3(m:Nat):jA (nV L m) (fun x n=>x.aw≤3*n):=by
 unfold nV TD;refine .take _ _ fun t=>.take _ _ fun v=>.bind (P:=Tt) (.may (L9 L m) (.pure trivial)) fun sup n1 _=>.take _ _ fun _=>.bind (Jg L m [] []) fun r n2 h=>.pure ?_
 simp at h;simp[Cl.aw];omega
theorem agl:∀m l,jA (nT L m l) Tt
 |0,l=>fun d a v b h=>(by rw[nT] at h;cases h)
 |m+1,l=>by rw[nT];exact .take _ _ fun c=>.take _ _ fun v=>.may (agl m _) (.pure trivial)
theorem aaS:∀m l,jA (iU L m l) (fun v n=>Bd.awL v≤Bd.awL l+3*n)
 |0,l=>fun d a v b h=>(by rw[iU] at h;cases h)
 |m+1,l=>by
  rw[iU];refine .may (.pure (by omega)) (.take _ _ fun _=>.bind (Jh L m).bd fun x n hx=>.take _ _ fun _=>(aaS m _).mono fun v n2 h=>?_);rw[Bd.awL_app,Bd.awL_one] at h;omega
theorem ai0(m:Nat):jA (xI L m) (fun x n=>x.aw≤3*n):=by
 unfold xI;refine .take _ _ fun t=>.bind (xU L m).2.1 fun h n1 _=>.bind (P:=Tt) (.may (agl L m []) (.pure trivial)) fun c n2 _=>.take _ _ fun _=>.bind (aaS L m []) fun bs n3 h=>.pure ?_
 simp at h;simp[It.aw];omega
theorem El:∀m p,jA (eG L m p) (fun v n=>v.aw≤p.aw+3*n)
 |0,p=>fun d a v b h=>(by rw[eG] at h;cases h)
 |m+1,p=>by
  rw[eG];refine .kind (.pure (by omega)) (.may (.bind (ai1 L m) fun x n hx=>.take _ _ fun _=>(El m _).mono fun v n2 h=>?_) (.may (.bind (ae3 L m) fun x n hx=>.take _ _ fun _=>(El m _).mono fun v n2 h=>?_) (.may (.bind (ai0 L m) fun x n hx=>.take _ _ fun _=>(El m _).mono fun v n2 h=>?_) (.take _ _ fun _=>.bind (Jh L m).bd fun x n hx=>.take _ _ fun _=>(El m _).mono fun v n2 h=>?_))))
  ·simp only[Pg.aw,nK,bU] at h ⊢;omega
  ·simp only[Pg.aw,nK,bU] at h ⊢;omega
  ·simp only[Pg.aw,nK,bU] at h ⊢;omega
  ·simp only[Pg.aw,Bd.awL_app,Bd.awL_one] at h ⊢;omega
end
set_option maxRecDepth 10000
set_option maxHeartbeats 1000000
section
variable{β:Type}{d:β}{P:Program}{t:TypeId}
theorem aff{s:AV}{k:PV→β}:lu P d t s (.pv (.rows [])) k=d:=by
 unfold lu qg;rw[dif_neg];rintro⟨w,⟨e,sz,by_,zc,es,es',_,_,_,_,_,_,_,hx,hne,_⟩,_⟩;cases hx;exact hne rfl
theorem Mt{s:AV}{c:List PV}{l:List (List PV)}{k:β}:mU P d t s (.pv (.rows (c::l))) k=d:=by
 unfold mU;rw[if_neg];rintro⟨e,sz,by_,zc,_,_,_,_,_,h⟩;cases h
theorem FZ{sz b:Nat}(ht:iY P t sz b){s:AV}{es:List (List PV)}(h:gB s=some es){k:β}:mU P d t s (.pv (.rows [])) k=k:=abf (afh ht h rfl)
theorem zB{sz b:Nat}(ht:iY P t sz b){s:AV}{es es':List (List PV)}(h:gB s=some es)(hne:es'≠[])(hsz:∀c∈es',c.length=sz)(hn:NS (.rows es))(hn':NS (.rows es'))(hb:es.length+es'.length≤1000000000)(hbb:b≤1000){k:PV→β}:lu P d t s (.pv (.rows es')) k=k (.rows (es++es')):=
 Bz (fun w=>Jz ht h rfl hne hsz (by omega) (Nat.le_trans (Nat.mul_le_mul hb hbb) (by decide))) (.rows _ fun c hc=>by
  rcases List.mem_append.1 hc with hc|hc
  ·cases hn with|rows _ hh=>exact hh c hc
  ·cases hn' with|rows _ hh=>exact hh c hc)
end
theorem zO(es:List (List PV)):gB (.pv (.rows es))=some es:=zP es
theorem ahi:gB (.pv nS)=some []:=rfl
theorem CZ{α:Type}(l:List α)(w:α→Nat)(q:Nat→List Int→Q)(out:List Int→Rs)(B:Nat)
  (hs:∀(i:Nat) (x:α) (acc:List Int),l[i]? = some x→i<l.length→acc.length+w x≤B→∃acc',acc'.length=acc.length+w x∧acc'≠[]∧body PG EE TT ev (q i acc)=gX (ev (q (i+1) acc')))
  (he:∀acc,body PG EE TT ev (q l.length acc)=.ok (out acc)):∀(m i:Nat) (acc:List Int),i+m=l.length→acc≠[]→acc.length+bU w (l.drop i)≤B→∃acc',acc'.length=acc.length+bU w (l.drop i)∧acc'≠[]∧ev (q i acc)=some (out acc')
 |0,i,acc,hi,hn,hb=>by
  obtain rfl:i=l.length:=by omega
  refine⟨acc,by rw[List.drop_length];rfl,hn,ax.of (he acc)⟩
 |m+1,i,acc,hi,hn,hb=>by
  have hi':i<l.length:=by omega
  have hd:l.drop i=l[i]::l.drop (i+1):=(List.getElem_cons_drop hi').symm;rw[hd,bU] at hb ⊢;obtain⟨acc1,h1,h2,h3⟩:=hs i l[i] acc (List.getElem?_eq_getElem hi') hi' (by omega);obtain⟨acc2,h4,h5,h6⟩:=CZ l w q out B hs he m (i+1) acc1 (by omega) h2 (by omega);exact⟨acc2,by omega,h5,ax.of (by rw[h3,h6];rfl)⟩
theorem JZ{α:Type}(w:α→Nat){l:List α}(h:0<l.length):bU w l=w l[0]+bU w (l.drop 1):=by
 cases l with
 |nil=>simp at h
 |cons x l=>rfl
theorem jf{α:Type}(l:List α)(w:α→Nat)(qa:List Int→Q)(q:Nat→List Int→Q)(oa out:List Int→Rs)(B:Nat)
  (ha:∀(x:α) (acc:List Int),l[0]? = some x→0<l.length→acc.length+w x≤B→∃acc',acc'.length=acc.length+w x∧acc'≠[]∧body PG EE TT ev (qa acc)=gX (ev (q 1 acc')))
  (hz:∀acc,l=[]→body PG EE TT ev (qa acc)=.ok (oa acc))
  (hs:∀(i:Nat) (x:α) (acc:List Int),l[i]? = some x→i<l.length→acc.length+w x≤B→∃acc',acc'.length=acc.length+w x∧acc'≠[]∧body PG EE TT ev (q i acc)=gX (ev (q (i+1) acc')))
  (he:∀acc,body PG EE TT ev (q l.length acc)=.ok (out acc)) (acc:List Int) (hb:acc.length+bU w l≤B):∃acc',acc'.length=acc.length+bU w l∧(l=[]∧acc'=acc∧ev (qa acc)=some (oa acc)∨l≠[]∧acc'≠[]∧ev (qa acc)=some (out acc')):=by
 by_cases h:l=[]
 ·exact⟨acc,by rw[h];rfl,.inl ⟨h,rfl,ax.of (hz acc h)⟩⟩
 ·have h0:0<l.length:=List.length_pos_iff.2 h
  rw[JZ w h0] at hb ⊢;obtain⟨acc1,h1,h2,h3⟩:=ha l[0] acc (List.getElem?_eq_getElem h0) h0 (by omega);obtain⟨acc2,h4,h5,h6⟩:=CZ l w q out B hs he (l.length-1) 1 acc1 (by omega) h2 (by omega);exact⟨acc2,by omega,.inr ⟨h,h5,ax.of (by rw[h3,h6];rfl)⟩⟩
def eZ(n:Int):PV:=iv n
theorem agi(n:Int):NS (eZ n):=.lit _
abbrev bP(l:List Int):List (List PV):=l.map fun x=>[eZ x]
theorem F5(l:List Int):NS (.rows (bP l)):=zR agi l
theorem Vz(l:List Int):∀c∈bP l,c.length=1:=fun c hc=>by
 obtain⟨x,_,rfl⟩:=List.mem_map.1 hc;rfl
section
variable{β:Type}{d:β}{kp:PV→β}
theorem fq{l:List Int}{x:Int}(h:l.length≤100000000):lu PG d 47 (.pv (.rows (bP l))) (.pv (.rows [[iv x]])) kp=kp (.rows (bP (l++[x]))):=by
 show lu PG d 47 (.pv (.rows (bP l))) (.pv (.rows (bP [x]))) kp=_;rw[zB EP (zO _) (by simp) (Vz [x]) (F5 l) (F5 [x]) (by simp[bP];omega) (by decide),←List.map_append]
theorem iX{l r:List Int}(hr:r≠[])(h:l.length+r.length≤100000000):lu PG d 47 (.pv (.rows (bP l))) (.pv (.rows (bP r))) kp=kp (.rows (bP (l++r))):=by
 rw[zB EP (zO _) (by simpa[bP] using hr) (Vz r) (F5 l) (F5 r) (by simp[bP];omega) (by decide),←List.map_append]
theorem gL{l:PV}{r:List Int}{k:β}(hr:r≠[]):mU PG d 47 (.pv l) (.pv (.rows (bP r))) k=d:=by
 cases r with
 |nil=>exact absurd rfl hr
 |cons x r=>exact Mt
end
theorem JU{i:Nat}(h:i<1000000000):IntKind.i64.wrap ((i:Int)+1)=((i+1:Nat):Int):=by rw[aJ (by omega)];omega
theorem fU{α:Type}(w:α→Nat)(hw:∀x,1≤w x):∀l:List α,l.length≤bU w l
 |[]=>Nat.le_refl _
 |x::l=>by have:=fU w hw l;have:=hw x;rw[List.length_cons,bU];omega
theorem Pt.awL_sum:∀l:List Pt,Pt.awL l=bU Pt.aw l
 |[]=>by rw[Pt.awL_nil];rfl
 |x::l=>by rw[Pt.awL,bU,Pt.awL_sum l]
theorem Ex.awL_sum:∀l:List Ex,Ex.awL l=bU Ex.aw l
 |[]=>by rw[Ex.awL_nil];rfl
 |x::l=>by rw[Ex.awL,bU,Ex.awL_sum l]
theorem Bd.awL_sum:∀l:List Bd,Bd.awL l=bU Bd.aw l
 |[]=>by rw[Bd.awL_nil];rfl
 |x::l=>by rw[Bd.awL,bU,Bd.awL_sum l]
theorem Pt.aw_pos(p:Pt):1≤p.aw:=by cases p;rw[Pt.aw];omega
theorem Ex.aw_pos(e:Ex):1≤e.aw:=by cases e;rw[Ex.aw];omega
def AtP(p:Pt):Prop:=p.aw≤1000000→∃l:List Int,l.length=p.aw∧l≠[]∧ev (ahC (iv p.kind) (sv p.name) (iv p.n) (pts p.kids) (iv p.at_))=some (0,[.rows (bP l)])
theorem aa9(p:Pt)(h:∀x∈p.kids,AtP x)(hw:p.aw=1+Pt.awL p.kids):AtP p:=by
 intro hb;have hsum:bU Pt.aw p.kids≤999999:=by rw[←Pt.awL_sum];omega
 have hlen:p.kids.length≤999999:=Nat.le_trans (fU _ Pt.aw_pos _) hsum;have step:∀(i:Nat) (x:Pt) (acc:List Int),p.kids[i]? = some x→i<p.kids.length→acc.length+x.aw≤1000000→∃r:List Int,r.length=x.aw∧r≠[]∧ev (ahC (iv x.kind) (sv x.name) (iv x.n) (pts x.kids) (iv x.at_))=some (0,[.rows (bP r)]):=fun i x acc hx hi hb=>h x (List.mem_of_getElem? hx) (by omega)
 obtain⟨acc,h1,h2⟩:=jf p.kids Pt.aw (fun acc=>Xq (iv 0) (iv p.kids.length) (pts p.kids) (bP acc)) (fun i acc=>Xp (iv i) (iv p.kids.length) (pts p.kids) (bP acc)) (fun acc=>(0,[.rows (bP acc)])) (fun acc=>(1,[.rows (bP acc)])) 1000000
  (fun x acc hx hi hb=>by
   obtain⟨r,r1,r2,r3⟩:=step 0 x acc hx hi hb;refine⟨acc++r,by simp[r1],by simp[r2],?_⟩;have hx':∀k',fB PG aK.fail 127 (.pv (pts p.kids)) (.pv (iv 0)) k'=_:=fun k'=>Dn (d:=aK.fail) (k:=k') hx
   rw[ZA];simp[hi,hx',r3,iX (d:=aK.fail) (l:=acc) r2 (by omega),gL (d:=aK.fail) r2,aJ])
  (fun acc hz=>by rw[ZA];simp[hz])
  (fun i x acc hx hi hb=>by
   obtain⟨r,r1,r2,r3⟩:=step i x acc hx hi hb;refine⟨acc++r,by simp[r1],by simp[r2],?_⟩;rw[Zz];simp[-Int.natCast_add,hi,Dn hx,r3,iX (d:=aK.fail) (l:=acc) r2 (by omega),gL (d:=aK.fail) r2,JU (show i<1000000000 by omega)])
  (fun acc=>by rw[Zz];simp) [p.at_] (by simp;omega)
 refine⟨acc,by rw[h1,hw,Pt.awL_sum];rfl,?_,?_⟩
 ·rcases h2 with⟨_,rfl,_⟩|⟨_,h2,_⟩
  ·simp
  ·exact h2
 ·have hq:∃k,ev (q67 (iv p.kind) (sv p.name) (iv p.n) (pts p.kids) (iv p.at_))=some (k,[.rows (bP acc)]):=by
   have e0:bP [p.at_]=[[iv p.at_]]:=rfl;rcases h2 with⟨_,rfl,h3⟩|⟨_,_,h3⟩
   ·rw[e0] at h3 ⊢
    exact⟨0,ax.of (by rw[h67];simp[h3])⟩
   ·rw[e0] at h3
    exact⟨0,ax.of (by rw[h67];simp[h3])⟩
  obtain⟨k,hq⟩:=hq;exact ax.of (by rw[aqk];simp[hq])
def Ex.parts(e:Ex):List Ex:=(if e.kind=7 then [] else e.kids)++(e.binds.map Bd.e++((if e.kind=7 then e.kids else [])++e.alts.map Al.e))
section
variable(e:Ex)
theorem Bu(l:List Ex)(x:Ex):(l++[x]).map Ex.cells=l.map Ex.cells++[eD x]:=by rw[List.map_append,List.map_cons,List.map_nil,Ex.cells_eq]
def qP0(z:Bool)(i:Nat)(acc:List Ex):Q:=match z with
 |true=>Xx (iv i) (acc.map Ex.cells) (iv e.kind) (sv e.name) (iv e.n) (iv e.t.kind) (sv e.t.name) (iv e.t.n) (bH e.t.kids) (exs e.kids) (dY e.alts) (bn e.binds) (iv e.at_)
 |false=>Xw (iv i) (acc.map Ex.cells) (iv e.kind) (sv e.name) (iv e.n) (iv e.t.kind) (sv e.t.name) (iv e.t.n) (bH e.t.kids) (exs e.kids) (dY e.alts) (bn e.binds) (iv e.at_)
theorem Nu(z:Bool)(hb:e.binds.length≤1000000):∀(m i:Nat) (acc:List Ex),i+m=e.binds.length→acc.length+m≤10000000→ev (qP0 e z i acc)=some (1,[iv e.kind,sv e.name,iv e.n,iv e.t.kind,sv e.t.name,iv e.t.n,bH e.t.kids,exs e.kids,dY e.alts,bn e.binds,iv e.at_,exs (acc++(e.binds.drop i).map Bd.e)])
 |0,i,acc,hi,ha=>by
  obtain rfl:i=e.binds.length:=by omega
  rw[List.drop_length];exact ax.of (by cases z<;>(first|rw[qP0,ZH]|rw[qP0,ZG])<;>simp[exs])
 |m+1,i,acc,hi,ha=>by
  have hi':i<e.binds.length:=by omega
  have hd:e.binds.drop i=e.binds[i]::e.binds.drop (i+1):=(List.getElem_cons_drop hi').symm;have ih:=Nu z hb m (i+1) (acc++[(e.binds[i]).e]) (by omega) (by simp;omega);have hap:=fun k'=>aN (P:=PG) (d:=.fail) (k:=k') vz (oo acc) (c:=eD (e.binds[i]).e) rfl (by simp) (by simp;omega) (by decide)
  have hx:=fun k'=>gH (d:=aK.fail) (k:=k') (List.getElem?_eq_getElem hi')
  rw[hd,List.map_cons];refine ax.of ?_;cases z
  all_goals
   simp only[qP0] at ih;rw[Bu] at ih
   (first|rw[qP0,ZH]|rw[qP0,ZG])
   simp[-Int.natCast_add,hi',hx,hap,JU (show i<1000000000 by omega),ih]
theorem ahZ(hb:e.binds.length≤1000000)(acc:List Ex)(ha:acc.length≤3000000):ev (Xz (iv 0) (acc.map Ex.cells) (iv e.kind) (sv e.name) (iv e.n) (iv e.t.kind) (sv e.t.name) (iv e.t.n) (bH e.t.kids) (exs e.kids) (dY e.alts) (bn e.binds) (iv e.at_))=some (if e.binds=[] then(0,[iv e.kind,sv e.name,iv e.n,iv e.t.kind,sv e.t.name,iv e.t.n,bH e.t.kids,exs e.kids,dY e.alts,bn e.binds,iv e.at_,exs acc]) else(1,[iv e.kind,sv e.name,iv e.n,iv e.t.kind,sv e.t.name,iv e.t.n,bH e.t.kids,exs e.kids,dY e.alts,bn e.binds,iv e.at_,exs (acc++e.binds.map Bd.e)])):=by
 by_cases h:e.binds=[]
 ·rw[if_pos h]
  have h0:e.binds.length=0:=by rw[h];rfl
  exact ax.of (by rw[ZJ];simp[h0,exs])
 ·rw[if_neg h]
  have h0:0<e.binds.length:=List.length_pos_iff.2 h;have hd:e.binds=e.binds[0]::e.binds.drop 1:=by have:=(List.getElem_cons_drop h0).symm;simpa using this
  have ih:=Nu e true hb (e.binds.length-1) 1 (acc++[(e.binds[0]).e]) (by omega) (by simp;omega);simp only[qP0] at ih;rw[Bu] at ih;simp only[Int.natCast_one] at ih;have w1:IntKind.i64.wrap 1=1:=aJ (by decide);have hap:=fun k'=>aN (P:=PG) (d:=.fail) (k:=k') vz (oo acc) (c:=eD (e.binds[0]).e) rfl (by simp) (by simp;omega) (by decide)
  have hx:∀k',fB PG aK.fail _ _ (.pv (iv 0)) k'=_:=fun k'=>gH (d:=aK.fail) (k:=k') (List.getElem?_eq_getElem h0)
  have hm:e.binds.map Bd.e=(e.binds[0]).e::(e.binds.drop 1).map Bd.e:=by conv=>lhs;rw[hd,List.map_cons]
  rw[hm];refine ax.of ?_;rw[ZJ];simp[h0,hx,hap,w1,ih]
theorem ahY(hb:e.binds.length≤1000000):ev (Xy (iv 0) (iv e.kind) (sv e.name) (iv e.n) (iv e.t.kind) (sv e.t.name) (iv e.t.n) (bH e.t.kids) (exs e.kids) (dY e.alts) (bn e.binds) (iv e.at_))=some (if e.binds=[] then(0,[iv e.kind,sv e.name,iv e.n,iv e.t.kind,sv e.t.name,iv e.t.n,bH e.t.kids,exs e.kids,dY e.alts,bn e.binds,iv e.at_,nS]) else(1,[iv e.kind,sv e.name,iv e.n,iv e.t.kind,sv e.t.name,iv e.t.n,bH e.t.kids,exs e.kids,dY e.alts,bn e.binds,iv e.at_,exs (e.binds.map Bd.e)])):=by
 by_cases h:e.binds=[]
 ·rw[if_pos h]
  have h0:e.binds.length=0:=by rw[h];rfl
  exact ax.of (by rw[ZI];simp[h0])
 ·rw[if_neg h]
  have h0:0<e.binds.length:=List.length_pos_iff.2 h;have hd:e.binds=e.binds[0]::e.binds.drop 1:=by have:=(List.getElem_cons_drop h0).symm;simpa using this
  have ih:=Nu e false hb (e.binds.length-1) 1 [(e.binds[0]).e] (by omega) (by simp;omega);simp only[qP0] at ih;rw[List.map_cons,List.map_nil,Ex.cells_eq] at ih;simp only[Int.natCast_one] at ih;have w1:IntKind.i64.wrap 1=1:=aJ (by decide);have hx:∀k',fB PG aK.fail _ _ (.pv (iv 0)) k'=_:=fun k'=>gH (d:=aK.fail) (k:=k') (List.getElem?_eq_getElem h0)
  have hm:e.binds.map Bd.e=(e.binds[0]).e::(e.binds.drop 1).map Bd.e:=by conv=>lhs;rw[hd,List.map_cons]
  rw[hm];refine ax.of ?_;rw[ZI];simp[h0,hx,w1,ih]
def qP2(z:Bool)(i:Nat)(acc:List Ex):Q:=match z with
 |true=>Xt (iv i) (acc.map Ex.cells) (iv e.kind) (sv e.name) (iv e.n) (iv e.t.kind) (sv e.t.name) (iv e.t.n) (bH e.t.kids) (exs e.kids) (dY e.alts) (bn e.binds) (iv e.at_)
 |false=>Xr (iv i) (acc.map Ex.cells) (iv e.kind) (sv e.name) (iv e.n) (iv e.t.kind) (sv e.t.name) (iv e.t.n) (bH e.t.kids) (exs e.kids) (dY e.alts) (bn e.binds) (iv e.at_)
theorem Nt(z:Bool)(hb:e.alts.length≤1000000):∀(m i:Nat) (acc:List Ex),i+m=e.alts.length→acc.length+m≤10000000→ev (qP2 e z i acc)=some (1,[iv e.kind,sv e.name,iv e.n,iv e.t.kind,sv e.t.name,iv e.t.n,bH e.t.kids,exs e.kids,dY e.alts,bn e.binds,iv e.at_,exs (acc++(e.alts.drop i).map Al.e)])
 |0,i,acc,hi,ha=>by
  obtain rfl:i=e.alts.length:=by omega
  rw[List.drop_length];exact ax.of (by cases z<;>(first|rw[qP2,ZC]|rw[qP2,ZB])<;>simp[exs])
 |m+1,i,acc,hi,ha=>by
  have hi':i<e.alts.length:=by omega
  have hd:e.alts.drop i=e.alts[i]::e.alts.drop (i+1):=(List.getElem_cons_drop hi').symm;have ih:=Nt z hb m (i+1) (acc++[(e.alts[i]).e]) (by omega) (by simp;omega);have hap:=fun k'=>aN (P:=PG) (d:=.fail) (k:=k') vz (oo acc) (c:=eD (e.alts[i]).e) rfl (by simp) (by simp;omega) (by decide)
  have hx:=fun k'=>pW (d:=aK.fail) (k:=k') (List.getElem?_eq_getElem hi')
  rw[hd,List.map_cons];refine ax.of ?_;cases z
  all_goals
   simp only[qP2] at ih;rw[Bu] at ih
   (first|rw[qP2,ZC]|rw[qP2,ZB])
   simp[-Int.natCast_add,hi',hx,hap,JU (show i<1000000000 by omega),ih]
theorem ahX(hb:e.alts.length≤1000000)(acc:List Ex)(ha:acc.length≤3000000):ev (Xv (iv 0) (acc.map Ex.cells) (iv e.kind) (sv e.name) (iv e.n) (iv e.t.kind) (sv e.t.name) (iv e.t.n) (bH e.t.kids) (exs e.kids) (dY e.alts) (bn e.binds) (iv e.at_))=some (if e.alts=[] then(0,[iv e.kind,sv e.name,iv e.n,iv e.t.kind,sv e.t.name,iv e.t.n,bH e.t.kids,exs e.kids,dY e.alts,bn e.binds,iv e.at_,exs acc]) else(1,[iv e.kind,sv e.name,iv e.n,iv e.t.kind,sv e.t.name,iv e.t.n,bH e.t.kids,exs e.kids,dY e.alts,bn e.binds,iv e.at_,exs (acc++e.alts.map Al.e)])):=by
 by_cases h:e.alts=[]
 ·rw[if_pos h]
  have h0:e.alts.length=0:=by rw[h];rfl
  exact ax.of (by rw[ZF];simp[h0,exs])
 ·rw[if_neg h]
  have h0:0<e.alts.length:=List.length_pos_iff.2 h;have hd:e.alts=e.alts[0]::e.alts.drop 1:=by have:=(List.getElem_cons_drop h0).symm;simpa using this
  have ih:=Nt e true hb (e.alts.length-1) 1 (acc++[(e.alts[0]).e]) (by omega) (by simp;omega);simp only[qP2] at ih;rw[Bu] at ih;simp only[Int.natCast_one] at ih;have w1:IntKind.i64.wrap 1=1:=aJ (by decide);have hap:=fun k'=>aN (P:=PG) (d:=.fail) (k:=k') vz (oo acc) (c:=eD (e.alts[0]).e) rfl (by simp) (by simp;omega) (by decide)
  have hx:∀k',fB PG aK.fail _ _ (.pv (iv 0)) k'=_:=fun k'=>pW (d:=aK.fail) (k:=k') (List.getElem?_eq_getElem h0)
  have hm:e.alts.map Al.e=(e.alts[0]).e::(e.alts.drop 1).map Al.e:=by conv=>lhs;rw[hd,List.map_cons]
  rw[hm];refine ax.of ?_;rw[ZF];simp[h0,hx,hap,w1,ih]
theorem ahW(hb:e.alts.length≤1000000):ev (Xu (iv 0) (iv e.kind) (sv e.name) (iv e.n) (iv e.t.kind) (sv e.t.name) (iv e.t.n) (bH e.t.kids) (exs e.kids) (dY e.alts) (bn e.binds) (iv e.at_))=some (if e.alts=[] then(0,[iv e.kind,sv e.name,iv e.n,iv e.t.kind,sv e.t.name,iv e.t.n,bH e.t.kids,exs e.kids,dY e.alts,bn e.binds,iv e.at_,nS]) else(1,[iv e.kind,sv e.name,iv e.n,iv e.t.kind,sv e.t.name,iv e.t.n,bH e.t.kids,exs e.kids,dY e.alts,bn e.binds,iv e.at_,exs (e.alts.map Al.e)])):=by
 by_cases h:e.alts=[]
 ·rw[if_pos h]
  have h0:e.alts.length=0:=by rw[h];rfl
  exact ax.of (by rw[ZE];simp[h0])
 ·rw[if_neg h]
  have h0:0<e.alts.length:=List.length_pos_iff.2 h;have hd:e.alts=e.alts[0]::e.alts.drop 1:=by have:=(List.getElem_cons_drop h0).symm;simpa using this
  have ih:=Nt e false hb (e.alts.length-1) 1 [(e.alts[0]).e] (by omega) (by simp;omega);simp only[qP2] at ih;rw[List.map_cons,List.map_nil,Ex.cells_eq] at ih;simp only[Int.natCast_one] at ih;have w1:IntKind.i64.wrap 1=1:=aJ (by decide);have hx:∀k',fB PG aK.fail _ _ (.pv (iv 0)) k'=_:=fun k'=>pW (d:=aK.fail) (k:=k') (List.getElem?_eq_getElem h0)
  have hm:e.alts.map Al.e=(e.alts[0]).e::(e.alts.drop 1).map Al.e:=by conv=>lhs;rw[hd,List.map_cons]
  rw[hm];refine ax.of ?_;rw[ZE];simp[h0,hx,w1,ih]
end
theorem Uf{s:AV}{l r:List Ex}(h:gB s=some (l.map Ex.cells))(hr:r≠[])(hb:l.length+r.length≤100000000)(k':PV→aK):lu PG aK.fail 51 s (.pv (exs r)) k'=k' (exs (l++r)):=by
 have hz:∀(l:List Ex),∀c∈l.map Ex.cells,c.length=11:=fun l c hc=>by
  obtain⟨x,_,rfl⟩:=List.mem_map.1 hc;rw[Ex.cells_eq];rfl
 have hn:∀(l:List Ex),NS (.rows (l.map Ex.cells)):=fun l=>(by simp:NS (exs l))
 rw[exs,zB vz h (by simpa using hr) (hz r) (hn l) (hn r) (by simp;omega) (by decide),←List.map_append,exs]
theorem Ms{s:AV}{r:List Ex}(hr:r≠[])(k':aK):mU PG aK.fail 51 s (.pv (exs r)) k'=.fail:=by
 cases r with
 |nil=>exact absurd rfl hr
 |cons x r=>exact Mt
theorem Ym(e:Ex)(hk:e.kids.length≤1000000)(hb:e.binds.length≤1000000)(ha:e.alts.length≤1000000):ev (akF (iv e.kind) (sv e.name) (iv e.n) (iv e.t.kind) (sv e.t.name) (iv e.t.n) (bH e.t.kids) (exs e.kids) (dY e.alts) (bn e.binds) (iv e.at_))=some (0,[exs e.parts]):=by
 have hq:∃k x,ev (q66 (iv e.kind) (sv e.name) (iv e.n) (iv e.t.kind) (sv e.t.name) (iv e.t.n) (bH e.t.kids) (exs e.kids) (dY e.alts) (bn e.binds) (iv e.at_))=some (k,[x])∧ED x=exs e.parts:=by
  unfold Ex.parts;have pa:=ahZ e hb;have pb:=ahY e hb;have ra:=ahX e ha;have rb:=ahW e ha;have mb:(e.binds.map Bd.e).length=e.binds.length:=List.length_map ..;have p1:=pb;have p2:=pa e.kids (by(first|simp only[List.length_append,List.length_map]|skip);omega);have r1:=rb;have r2:=ra (e.binds.map Bd.e) (by(first|simp only[List.length_append,List.length_map]|skip);omega);have r3:=ra e.kids (by(first|simp only[List.length_append,List.length_map]|skip);omega);have r4:=ra (e.binds.map Bd.e++e.kids) (by(first|simp only[List.length_append,List.length_map]|skip);omega);have r5:=ra (e.kids++e.binds.map Bd.e) (by(first|simp only[List.length_append,List.length_map]|skip);omega);clear pa pb ra rb;by_cases k7:e.kind=7<;>by_cases hkn:e.kids=[]<;>by_cases hbn:e.binds=[]<;>by_cases han:e.alts=[]
  all_goals
   (first|rw[if_pos k7,if_pos k7]|rw[if_neg k7,if_neg k7])
   (first|have h7:(e.kind=7)=True:=eq_true k7|have h7:(e.kind=7)=False:=eq_false k7)
   (first|rw[if_pos hbn] at p1 p2|rw[if_neg hbn] at p1 p2)
   (first|rw[if_pos han] at r1 r2 r3 r4 r5|rw[if_neg han] at r1 r2 r3 r4 r5)
   first
    |have hkz:exs e.kids=.rows []:=by rw[hkn];rfl
     have c1:∀s k',lu PG aK.fail 51 (.pv s) (.pv (exs e.kids)) k'=.fail:=fun s k'=>by rw[hkz];exact aff
     have c0:∀k',mU PG aK.fail 51 (.pv nS) (.pv (exs e.kids)) k'=k':=fun k'=>by rw[hkz];exact FZ vz rfl
     have c2:=c1 nS;have c3:∀k',mU PG aK.fail 51 (.pv (exs (e.binds.map Bd.e))) (.pv (exs e.kids)) k'=k':=fun k'=>by rw[hkz];exact FZ vz rfl
     have hI:∀k:aK,isK aK.fail (.rows (e.kids.map Ex.cells)) (exs e.kids) k=k:=fun k=>Dl _ _ _
     generalize exs e.kids=KK at *
     (first|simp only[exs,List.nil_append] at p1 p2 r1 r2 r3 r4 r5 c1 c0 c2 c3|skip)
     refine⟨_,_,ax.of (by rw[h66];simp[-List.map_map,-List.map_append,h7,c1,c0,c2,c3,p1,p2,r1,r2,r3,r4,r5,hI];(first|exact⟨rfl,rfl⟩|rfl)),?_⟩;simp[exs,hkn,hbn,han]
    |have c1:=fun k'=>Uf (s:=.pv nS) (l:=[]) (r:=e.kids) rfl hkn (by simp only[List.length_append,List.length_map,List.length_nil];omega) k'
     have c0:=fun(k':aK)=>Ms (s:=.pv nS) (r:=e.kids) hkn k'
     have c2:=fun k'=>Uf (s:=.pv (exs (e.binds.map Bd.e))) (l:=(e.binds.map Bd.e)) (r:=e.kids) rfl hkn (by simp only[List.length_append,List.length_map,List.length_nil];omega) k'
     have c3:=fun(k':aK)=>Ms (s:=.pv (exs (e.binds.map Bd.e))) (r:=e.kids) hkn k'
     have hI:∀k:aK,isK aK.fail (.rows (e.kids.map Ex.cells)) (exs e.kids) k=k:=fun k=>Dl _ _ _
     generalize exs e.kids=KK at *
     (first|simp only[exs,List.nil_append] at p1 p2 r1 r2 r3 r4 r5 c1 c0 c2 c3|skip)
     refine⟨_,_,ax.of (by rw[h66];simp[-List.map_map,-List.map_append,h7,c1,c0,c2,c3,p1,p2,r1,r2,r3,r4,r5,hI];(first|exact⟨rfl,rfl⟩|rfl)),?_⟩;simp[exs,hkn,hbn,han]
 obtain⟨k,x,h1,h2⟩:=hq;exact ax.of (by rw[aql];simp[h1,h2])
theorem BN{α β:Type}(w:β→Nat)(f:α→β):∀l:List α,bU w (l.map f)=bU (fun x=>w (f x)) l
 |[]=>rfl
 |x::l=>by rw[List.map_cons,bU,bU,BN w f l]
theorem Bd.awL_parts:∀l:List Bd,Bd.awL l=l.length+bU (fun x=>x.e.aw) l
 |[]=>by rw[Bd.awL_nil];rfl
 |.mk s e a::l=>by rw[Bd.awL_cons,Bd.aw,Bd.awL_parts l,bU,List.length_cons,Bd.e];omega
theorem Al.awL_parts:∀l:List Al,Al.awL l=bU (fun x=>x.p.aw) l+bU (fun x=>x.e.aw) l
 |[]=>by rw[Al.awL_nil];rfl
 |.mk p e::l=>by rw[Al.awL,Al.aw,Al.awL_parts l,bU,bU,Al.p,Al.e];omega
theorem Ex.aw_parts(e:Ex):e.aw=1+bU Ex.aw e.parts+e.binds.length+bU (fun x=>x.p.aw) e.alts:=by
 cases e with
 |mk k s n t ks xs bs a=>
  rw[Ex.aw,Ex.awL_sum,Al.awL_parts,Bd.awL_parts];unfold Ex.parts Ex.kind Ex.kids Ex.binds Ex.alts;rw[nK,nK,nK,BN,BN];have e0:bU Ex.aw []=0:=rfl;by_cases hk:k=7
  ·simp only[if_pos hk,e0];omega
  ·simp only[if_neg hk,e0];omega
theorem Ex.kids_aw(e:Ex):Ex.awL e.kids≤e.aw:=by cases e;rw[Ex.aw,Ex.kids];omega
def AtE(e:Ex):Prop:=e.aw≤1000000→∃l:List Int,l.length=e.aw∧l≠[]∧ev (ahK (iv e.kind) (sv e.name) (iv e.n) (iv e.t.kind) (sv e.t.name) (iv e.t.n) (bH e.t.kids) (exs e.kids) (dY e.alts) (bn e.binds) (iv e.at_))=some (0,[.rows (bP l)])
theorem Ue:∀p:Pt,AtP p:=by
 have key:∀n (p:Pt),p.aw≤n→AtP p:=by
  intro n
  induction n with
  |zero=>intro p h;have:=Pt.aw_pos p;omega
  |succ n ih=>
   intro p h;cases p with
   |mk k s m ks a=>
    refine aa9 _ (fun x hx=>?_) (by rw[Pt.aw];rfl);have hm:∀(l:List Pt),x∈l→x.aw≤Pt.awL l:=fun l=>by
     induction l with
     |nil=>intro h;cases h
     |cons y l ih2=>
      intro h;rw[Pt.awL];rcases List.mem_cons.1 h with rfl|h
      ·omega
      ·have:=ih2 h;omega
    have:=hm ks hx;rw[Pt.aw] at h;exact ih x (by omega)
 exact fun p=>key _ p (Nat.le_refl _)
theorem K4{α:Type}(w:α→Nat){x:α}:∀{l:List α},x∈l→w x≤bU w l
 |y::l,h=>by
  rw[bU];rcases List.mem_cons.1 h with rfl|h
  ·omega
  ·have:=K4 w h;omega
theorem wK{α:Type}:∀l:List α,bU (fun _=>1) l=l.length
 |[]=>rfl
 |x::l=>by rw[bU,wK l,List.length_cons];omega
section
variable(e:Ex)
theorem aa7(h:∀x∈e.parts,AtE x)(acc:List Int)(hb:acc.length+bU Ex.aw e.parts≤1000000):∃acc':List Int,acc'.length=acc.length+bU Ex.aw e.parts∧(e.parts=[]∧acc'=acc∧ev (GK (iv 0) (iv e.parts.length) (exs e.parts) (bP acc) (iv e.kind) (sv e.name) (iv e.n) (iv e.t.kind) (sv e.t.name) (iv e.t.n) (bH e.t.kids) (exs e.kids) (dY e.alts) (bn e.binds) (iv e.at_))=some (0,[iv e.kind,sv e.name,iv e.n,iv e.t.kind,sv e.t.name,iv e.t.n,bH e.t.kids,exs e.kids,dY e.alts,bn e.binds,iv e.at_,.rows (bP acc)])∨e.parts≠[]∧acc'≠[]∧ev (GK (iv 0) (iv e.parts.length) (exs e.parts) (bP acc) (iv e.kind) (sv e.name) (iv e.n) (iv e.t.kind) (sv e.t.name) (iv e.t.n) (bH e.t.kids) (exs e.kids) (dY e.alts) (bn e.binds) (iv e.at_))=some (1,[iv e.kind,sv e.name,iv e.n,iv e.t.kind,sv e.t.name,iv e.t.n,bH e.t.kids,exs e.kids,dY e.alts,bn e.binds,iv e.at_,.rows (bP acc')])):=by
 have hlen:e.parts.length≤1000000:=Nat.le_trans (fU _ Ex.aw_pos _) (by omega);generalize hP:e.parts=PL at *;refine jf PL Ex.aw (fun acc=>GK (iv 0) (iv PL.length) (exs PL) (bP acc) (iv e.kind) (sv e.name) (iv e.n) (iv e.t.kind) (sv e.t.name) (iv e.t.n) (bH e.t.kids) (exs e.kids) (dY e.alts) (bn e.binds) (iv e.at_)) (fun i acc=>XC (iv i) (iv PL.length) (exs PL) (bP acc) (iv e.kind) (sv e.name) (iv e.n) (iv e.t.kind) (sv e.t.name) (iv e.t.n) (bH e.t.kids) (exs e.kids) (dY e.alts) (bn e.binds) (iv e.at_)) (fun acc=>(0,[iv e.kind,sv e.name,iv e.n,iv e.t.kind,sv e.t.name,iv e.t.n,bH e.t.kids,exs e.kids,dY e.alts,bn e.binds,iv e.at_,.rows (bP acc)])) (fun acc=>(1,[iv e.kind,sv e.name,iv e.n,iv e.t.kind,sv e.t.name,iv e.t.n,bH e.t.kids,exs e.kids,dY e.alts,bn e.binds,iv e.at_,.rows (bP acc)])) 1000000
  (fun x acc hx hi hb=>?_) (fun acc hz=>?_) (fun i x acc hx hi hb=>?_) (fun acc=>?_) acc hb
 ·obtain⟨r,r1,r2,r3⟩:=h x (List.mem_of_getElem? hx) (by omega)
  refine⟨acc++r,by simp[r1],by simp[r2],?_⟩;have hx':∀k',fB PG aK.fail 51 (.pv (exs PL)) (.pv (iv 0)) k'=_:=fun k'=>sM (d:=aK.fail) (k:=k') hx
  rw[ZT];simp[hi,hx',r3,iX (d:=aK.fail) (l:=acc) r2 (by omega),gL (d:=aK.fail) r2,aJ]
 ·rw[ZT];simp[hz]
 ·obtain⟨r,r1,r2,r3⟩:=h x (List.mem_of_getElem? hx) (by omega)
  refine⟨acc++r,by simp[r1],by simp[r2],?_⟩;rw[ZR];simp[-Int.natCast_add,hi,sM hx,r3,iX (d:=aK.fail) (l:=acc) r2 (by omega),gL (d:=aK.fail) r2,JU (show i<1000000000 by omega)]
 ·rw[ZR];simp
theorem aa8(acc:List Int)(hb:acc.length+e.binds.length≤1000000):∃acc':List Int,acc'.length=acc.length+e.binds.length∧(e.binds=[]∧acc'=acc∧ev (GJ (iv 0) (iv e.binds.length) (bn e.binds) (bP acc) (iv e.kind) (sv e.name) (iv e.n) (iv e.t.kind) (sv e.t.name) (iv e.t.n) (bH e.t.kids) (exs e.kids) (dY e.alts) (bn e.binds) (iv e.at_))=some (0,[iv e.kind,sv e.name,iv e.n,iv e.t.kind,sv e.t.name,iv e.t.n,bH e.t.kids,exs e.kids,dY e.alts,bn e.binds,iv e.at_,.rows (bP acc)])∨e.binds≠[]∧acc'≠[]∧ev (GJ (iv 0) (iv e.binds.length) (bn e.binds) (bP acc) (iv e.kind) (sv e.name) (iv e.n) (iv e.t.kind) (sv e.t.name) (iv e.t.n) (bH e.t.kids) (exs e.kids) (dY e.alts) (bn e.binds) (iv e.at_))=some (1,[iv e.kind,sv e.name,iv e.n,iv e.t.kind,sv e.t.name,iv e.t.n,bH e.t.kids,exs e.kids,dY e.alts,bn e.binds,iv e.at_,.rows (bP acc')])):=by
 have hlen:e.binds.length≤1000000:=by omega
 rw[show acc.length+e.binds.length=acc.length+bU (fun _=>1) e.binds by rw[wK]] at hb ⊢;refine jf e.binds (fun _=>1) (fun acc=>GJ (iv 0) (iv e.binds.length) (bn e.binds) (bP acc) (iv e.kind) (sv e.name) (iv e.n) (iv e.t.kind) (sv e.t.name) (iv e.t.n) (bH e.t.kids) (exs e.kids) (dY e.alts) (bn e.binds) (iv e.at_)) (fun i acc=>XB (iv i) (iv e.binds.length) (bn e.binds) (bP acc) (iv e.kind) (sv e.name) (iv e.n) (iv e.t.kind) (sv e.t.name) (iv e.t.n) (bH e.t.kids) (exs e.kids) (dY e.alts) (bn e.binds) (iv e.at_)) (fun acc=>(0,[iv e.kind,sv e.name,iv e.n,iv e.t.kind,sv e.t.name,iv e.t.n,bH e.t.kids,exs e.kids,dY e.alts,bn e.binds,iv e.at_,.rows (bP acc)])) (fun acc=>(1,[iv e.kind,sv e.name,iv e.n,iv e.t.kind,sv e.t.name,iv e.t.n,bH e.t.kids,exs e.kids,dY e.alts,bn e.binds,iv e.at_,.rows (bP acc)])) 1000000
  (fun x acc hx hi hb=>?_) (fun acc hz=>?_) (fun i x acc hx hi hb=>?_) (fun acc=>?_) acc hb
 ·refine⟨acc++[x.at_],by simp,by simp,?_⟩
  have hx':∀k',fB PG aK.fail 38 (.pv (bn e.binds)) (.pv (iv 0)) k'=_:=fun k'=>gH (d:=aK.fail) (k:=k') hx
  rw[ZQ];simp[hi,hx',fq (d:=aK.fail) (l:=acc) (x:=x.at_) (by omega),aJ]
 ·rw[ZQ];simp[hz]
 ·refine⟨acc++[x.at_],by simp,by simp,?_⟩
  rw[ZP];simp[-Int.natCast_add,hi,gH hx,fq (d:=aK.fail) (l:=acc) (x:=x.at_) (by omega),JU (show i<1000000000 by omega)]
 ·rw[ZP];simp
theorem afb(acc:List Int)(hb:acc.length+bU (fun x=>x.p.aw) e.alts≤1000000):∃acc':List Int,acc'.length=acc.length+bU (fun x=>x.p.aw) e.alts∧(e.alts=[]∧acc'=acc∧ev (GI (iv 0) (iv e.alts.length) (dY e.alts) (bP acc))=some (0,[.rows (bP acc)])∨e.alts≠[]∧acc'≠[]∧ev (GI (iv 0) (iv e.alts.length) (dY e.alts) (bP acc))=some (1,[.rows (bP acc')])):=by
 have hlen:e.alts.length≤1000000:=Nat.le_trans (fU _ (fun x=>Pt.aw_pos x.p) _) (Nat.le_trans (Nat.le_add_left _ _) hb);refine jf e.alts (fun x=>x.p.aw) (fun acc=>GI (iv 0) (iv e.alts.length) (dY e.alts) (bP acc)) (fun i acc=>XA (iv i) (iv e.alts.length) (dY e.alts) (bP acc)) (fun acc=>(0,[.rows (bP acc)])) (fun acc=>(1,[.rows (bP acc)])) 1000000
  (fun x acc hx hi hb=>?_) (fun acc hz=>?_) (fun i x acc hx hi hb=>?_) (fun acc=>?_) acc hb
 ·obtain⟨r,r1,r2,r3⟩:=Ue x.p (by omega)
  refine⟨acc++r,by simp[r1],by simp[r2],?_⟩;have hx':∀k',fB PG aK.fail 52 (.pv (dY e.alts)) (.pv (iv 0)) k'=_:=fun k'=>pW (d:=aK.fail) (k:=k') hx
  rw[ZO];simp[hi,hx',r3,iX (d:=aK.fail) (l:=acc) r2 (by omega),gL (d:=aK.fail) r2,aJ]
 ·rw[ZO];simp[hz]
 ·obtain⟨r,r1,r2,r3⟩:=Ue x.p (by omega)
  refine⟨acc++r,by simp[r1],by simp[r2],?_⟩;rw[ZN];simp[-Int.natCast_add,hi,pW hx,r3,iX (d:=aK.fail) (l:=acc) r2 (by omega),gL (d:=aK.fail) r2,JU (show i<1000000000 by omega)]
 ·rw[ZN];simp
theorem abb(h:∀x∈e.parts,AtE x):AtE e:=by
 intro hb;have hw:=e.aw_parts;have hk:e.kids.length≤1000000:=by
  have:=e.kids_aw;have h2:=fU _ Ex.aw_pos e.kids;rw[←Ex.awL_sum] at h2;omega
 have ha:e.alts.length≤1000000:=Nat.le_trans (fU _ (fun x=>Pt.aw_pos x.p) _) (show bU (fun x=>x.p.aw) e.alts≤1000000 by omega);have hp:=Ym e hk (by omega) ha;obtain⟨l1,a1,c1⟩:=aa7 e h [e.at_] (by simp;omega);obtain⟨l2,a2,c2⟩:=aa8 e l1 (by simp at a1;omega);obtain⟨l3,a3,c3⟩:=afb e l2 (by simp at a1;omega);have n1:l1≠[]:=by rcases c1 with⟨_,rfl,_⟩|⟨_,h,_⟩;simp;exact h
 have n2:l2≠[]:=by rcases c2 with⟨_,rfl,_⟩|⟨_,h,_⟩;exact n1;exact h
 have n3:l3≠[]:=by rcases c3 with⟨_,rfl,_⟩|⟨_,h,_⟩;exact n2;exact h
 refine⟨l3,by simp at a1;omega,n3,?_⟩;have hlp:∀k',gm PG aK.fail 51 (.pv (exs e.parts)) k'=k' (.pv (iv e.parts.length)):=fun k'=>by simp
 have e0:bP [e.at_]=[[iv e.at_]]:=rfl;have hq:ev (q38 (iv e.kind) (sv e.name) (iv e.n) (iv e.t.kind) (sv e.t.name) (iv e.t.n) (bH e.t.kids) (exs e.kids) (dY e.alts) (bn e.binds) (iv e.at_))=some (0,[.rows (bP l3)]):=by
  refine ax.of ?_;rw[h38];generalize e.parts=PL at *;rcases c1 with⟨_,rfl,c1⟩|⟨_,_,c1⟩<;>rcases c2 with⟨_,rfl,c2⟩|⟨_,_,c2⟩<;>rcases c3 with⟨_,rfl,c3⟩|⟨_,_,c3⟩
  all_goals
   (first|simp only[e0] at c1 c2 c3 ⊢ | simp only[e0] at c1 c2 c3|simp only[e0] at c1 c2|simp only[e0] at c1)
   simp[hp,c1,c2,c3]
 exact ax.of (by rw[aqD];simp[hq])
end
theorem afc:∀e:Ex,AtE e:=by
 have key:∀n (e:Ex),e.aw≤n→AtE e:=by
  intro n
  induction n with
  |zero=>intro e h;have:=Ex.aw_pos e;omega
  |succ n ih=>
   intro e h;refine abb e fun x hx=>ih x ?_
   have h1:=K4 Ex.aw hx;have h2:=e.aw_parts;omega
 exact fun e=>key _ e (Nat.le_refl _)
set_option maxRecDepth 10000
set_option maxHeartbeats 1000000
theorem xD{α:Type}(l:List α)(w:α→Nat)(qn:Q)(q:Nat→List Int→Q)(on:Rs)(out:List Int→Rs)(B:Nat)
  (ha:∀(x:α),l[0]? = some x→0<l.length→w x≤B→∃acc':List Int,acc'.length=w x∧acc'≠[]∧body PG EE TT ev qn=gX (ev (q 1 acc')))
  (hz:l=[]→body PG EE TT ev qn=.ok on)
  (hs:∀(i:Nat) (x:α) (acc:List Int),l[i]? = some x→i<l.length→acc.length+w x≤B→∃acc',acc'.length=acc.length+w x∧acc'≠[]∧body PG EE TT ev (q i acc)=gX (ev (q (i+1) acc')))
  (he:∀acc,body PG EE TT ev (q l.length acc)=.ok (out acc)) (hb:bU w l≤B):∃acc':List Int,acc'.length=bU w l∧(l=[]∧acc'=[]∧ev qn=some on∨l≠[]∧acc'≠[]∧ev qn=some (out acc')):=by
 by_cases h:l=[]
 ·exact⟨[],by rw[h];rfl,.inl ⟨h,rfl,ax.of (hz h)⟩⟩
 ·have h0:0<l.length:=List.length_pos_iff.2 h
  rw[JZ w h0] at hb ⊢;obtain⟨acc1,h1,h2,h3⟩:=ha l[0] (List.getElem?_eq_getElem h0) h0 (by omega);obtain⟨acc2,h4,h5,h6⟩:=CZ l w q out B hs he (l.length-1) 1 acc1 (by omega) h2 (by omega);exact⟨acc2,by omega,.inr ⟨h,h5,ax.of (by rw[h3,h6];rfl)⟩⟩
theorem Bd.aw_eq(x:Bd):x.aw=1+x.e.aw:=by cases x;rw[Bd.aw,Bd.e]
theorem Bd.aw_pos(x:Bd):1≤x.aw:=by rw[x.aw_eq];omega
theorem Dt.aw_pos(x:Dt):1≤x.aw:=by unfold Dt.aw;omega
theorem Cl.aw_pos(x:Cl):1≤x.aw:=by unfold Cl.aw;omega
theorem It.aw_pos(x:It):1≤x.aw:=by unfold It.aw;omega
theorem Ad(x:Bd)(acc:List Int)(hb:acc.length+x.aw≤1000000):∃r:List Int,(acc++[x.at_]++r).length=acc.length+x.aw∧r≠[]∧r.length≤1000000∧ev (ahK (iv x.e.kind) (sv x.e.name) (iv x.e.n) (iv x.e.t.kind) (sv x.e.t.name) (iv x.e.t.n) (bH x.e.t.kids) (exs x.e.kids) (dY x.e.alts) (bn x.e.binds) (iv x.e.at_))=some (0,[.rows (bP r)]):=by
 rw[x.aw_eq] at hb ⊢;obtain⟨r,r1,r2,r3⟩:=afc x.e (by omega);exact⟨r,by simp[r1];omega,r2,by omega,r3⟩
theorem alJ(l:List Cn)(e f g h i j k:PV)(acc:List Int)(hb:acc.length+l.length≤1000000):∃acc':List Int,acc'.length=acc.length+l.length∧(l=[]∧acc'=acc∧ev (GX (iv 0) (iv l.length) (qb l) (bP acc) e f g h i j k)=some (0,[h,i,j,k,e,f,g,.rows (bP acc)])∨l≠[]∧acc'≠[]∧ev (GX (iv 0) (iv l.length) (qb l) (bP acc) e f g h i j k)=some (1,[h,i,j,k,e,f,g,.rows (bP acc')])):=by
 have hlen:l.length≤1000000:=by omega
 rw[show acc.length+l.length=acc.length+bU (fun _=>1) l by rw[wK]] at hb ⊢;refine jf l (fun _=>1) (fun acc=>GX (iv 0) (iv l.length) (qb l) (bP acc) e f g h i j k) (fun i0 acc=>XJ (iv i0) (iv l.length) (qb l) (bP acc) e f g h i j k) (fun acc=>(0,[h,i,j,k,e,f,g,.rows (bP acc)])) (fun acc=>(1,[h,i,j,k,e,f,g,.rows (bP acc)])) 1000000
  (fun x acc hx hi hb=>?_) (fun acc hz=>?_) (fun i0 x acc hx hi hb=>?_) (fun acc=>?_) acc hb
 ·refine⟨acc++[x.at_],by simp,by simp,?_⟩
  have hx':∀k',fB PG aK.fail 74 (.pv (qb l)) (.pv (iv 0)) k'=_:=fun k'=>Dr (d:=aK.fail) (k:=k') hx
  rw[aad];simp[hi,hx',fq (d:=aK.fail) (l:=acc) (x:=x.at_) (by omega),aJ]
 ·rw[aad];simp[hz]
 ·refine⟨acc++[x.at_],by simp,by simp,?_⟩
  rw[aac];simp[-Int.natCast_add,hi,Dr hx,fq (d:=aK.fail) (l:=acc) (x:=x.at_) (by omega),JU (show i0<1000000000 by omega)]
 ·rw[aac];simp
theorem adt(l:List Md)(e f g h i j k l2 m n o p q:PV)(acc:List Int)(hb:acc.length+l.length≤1000000):∃acc':List Int,acc'.length=acc.length+l.length∧(l=[]∧acc'=acc∧ev (GU (iv 0) (iv l.length) (mJ l) (bP acc) e f g h i j k l2 m n o p q)=some (0,[h,i,j,k,l2,m,n,o,p,q,.rows (bP acc),e,f,g])∨l≠[]∧acc'≠[]∧ev (GU (iv 0) (iv l.length) (mJ l) (bP acc) e f g h i j k l2 m n o p q)=some (1,[h,i,j,k,l2,m,n,o,p,q,.rows (bP acc'),e,f,g])):=by
 have hlen:l.length≤1000000:=by omega
 rw[show acc.length+l.length=acc.length+bU (fun _=>1) l by rw[wK]] at hb ⊢;refine jf l (fun _=>1) (fun acc=>GU (iv 0) (iv l.length) (mJ l) (bP acc) e f g h i j k l2 m n o p q) (fun i0 acc=>XG (iv i0) (iv l.length) (mJ l) (bP acc) e f g h i j k l2 m n o p q) (fun acc=>(0,[h,i,j,k,l2,m,n,o,p,q,.rows (bP acc),e,f,g])) (fun acc=>(1,[h,i,j,k,l2,m,n,o,p,q,.rows (bP acc),e,f,g])) 1000000
  (fun x acc hx hi hb=>?_) (fun acc hz=>?_) (fun i0 x acc hx hi hb=>?_) (fun acc=>?_) acc hb
 ·refine⟨acc++[x.at_],by simp,by simp,?_⟩
  have hx':∀k',fB PG aK.fail 78 (.pv (mJ l)) (.pv (iv 0)) k'=_:=fun k'=>Dp (d:=aK.fail) (k:=k') hx
  rw[Z6];simp[hi,hx',fq (d:=aK.fail) (l:=acc) (x:=x.at_) (by omega),aJ]
 ·rw[Z6];simp[hz]
 ·refine⟨acc++[x.at_],by simp,by simp,?_⟩
  rw[Z5];simp[-Int.natCast_add,hi,Dp hx,fq (d:=aK.fail) (l:=acc) (x:=x.at_) (by omega),JU (show i0<1000000000 by omega)]
 ·rw[Z5];simp
theorem ads(l:List Bd)(e f g h i j k:PV)(acc:List Int)(hb:acc.length+bU Bd.aw l≤1000000):∃acc':List Int,acc'.length=acc.length+bU Bd.aw l∧(l=[]∧acc'=acc∧ev (GR (iv 0) (iv l.length) (bn l) (bP acc) e f g h i j k)=some (0,[h,i,j,k,e,f,g,.rows (bP acc)])∨l≠[]∧acc'≠[]∧ev (GR (iv 0) (iv l.length) (bn l) (bP acc) e f g h i j k)=some (1,[h,i,j,k,e,f,g,.rows (bP acc')])):=by
 have hlen:l.length≤1000000:=Nat.le_trans (fU _ Bd.aw_pos _) (by omega);refine jf l Bd.aw (fun acc=>GR (iv 0) (iv l.length) (bn l) (bP acc) e f g h i j k) (fun i0 acc=>XF (iv i0) (iv l.length) (bn l) (bP acc) e f g h i j k) (fun acc=>(0,[h,i,j,k,e,f,g,.rows (bP acc)])) (fun acc=>(1,[h,i,j,k,e,f,g,.rows (bP acc)])) 1000000
  (fun x acc hx hi hb=>?_) (fun acc hz=>?_) (fun i0 x acc hx hi hb=>?_) (fun acc=>?_) acc hb
 ·obtain⟨r,r1,r2,r3,r4⟩:=Ad x acc hb
  refine⟨acc++[x.at_]++r,r1,by simp[r2],?_⟩;have hx':∀k',fB PG aK.fail 38 (.pv (bn l)) (.pv (iv 0)) k'=_:=fun k'=>gH (d:=aK.fail) (k:=k') hx
  rw[Z4];simp[-List.map_append,-List.append_assoc,hi,hx',fq (d:=aK.fail) (l:=acc) (x:=x.at_) (by omega),r4,iX (d:=aK.fail) (l:=acc++[x.at_]) r2 (by simp;omega),gL (d:=aK.fail) r2,aJ]
 ·rw[Z4];simp[hz]
 ·obtain⟨r,r1,r2,r3,r4⟩:=Ad x acc hb
  refine⟨acc++[x.at_]++r,r1,by simp[r2],?_⟩;rw[Z0];simp[-List.map_append,-List.append_assoc,-Int.natCast_add,hi,gH hx,fq (d:=aK.fail) (l:=acc) (x:=x.at_) (by omega),r4,iX (d:=aK.fail) (l:=acc++[x.at_]) r2 (by simp;omega),gL (d:=aK.fail) r2,JU (show i0<1000000000 by omega)]
 ·rw[Z0];simp
theorem Sv(l:List Bd)(e f g h i j k:PV)(acc:List Int)(hb:acc.length+bU Bd.aw l≤1000000):∃acc':List Int,acc'.length=acc.length+bU Bd.aw l∧(l=[]∧acc'=acc∧ev (AA (iv 0) (iv l.length) (bn l) (bP acc) e f g h i j k)=some (0,[h,i,j,k,e,f,g,.rows (bP acc)])∨l≠[]∧acc'≠[]∧ev (AA (iv 0) (iv l.length) (bn l) (bP acc) e f g h i j k)=some (1,[h,i,j,k,e,f,g,.rows (bP acc')])):=by
 have hlen:l.length≤1000000:=Nat.le_trans (fU _ Bd.aw_pos _) (by omega);refine jf l Bd.aw (fun acc=>AA (iv 0) (iv l.length) (bn l) (bP acc) e f g h i j k) (fun i0 acc=>RI (iv i0) (iv l.length) (bn l) (bP acc) e f g h i j k) (fun acc=>(0,[h,i,j,k,e,f,g,.rows (bP acc)])) (fun acc=>(1,[h,i,j,k,e,f,g,.rows (bP acc)])) 1000000
  (fun x acc hx hi hb=>?_) (fun acc hz=>?_) (fun i0 x acc hx hi hb=>?_) (fun acc=>?_) acc hb
 ·obtain⟨r,r1,r2,r3,r4⟩:=Ad x acc hb
  refine⟨acc++[x.at_]++r,r1,by simp[r2],?_⟩;have hx':∀k',fB PG aK.fail 38 (.pv (bn l)) (.pv (iv 0)) k'=_:=fun k'=>gH (d:=aK.fail) (k:=k') hx
  rw[Tw];simp[-List.map_append,-List.append_assoc,hi,hx',fq (d:=aK.fail) (l:=acc) (x:=x.at_) (by omega),r4,iX (d:=aK.fail) (l:=acc++[x.at_]) r2 (by simp;omega),gL (d:=aK.fail) r2,aJ]
 ·rw[Tw];simp[hz]
 ·obtain⟨r,r1,r2,r3,r4⟩:=Ad x acc hb
  refine⟨acc++[x.at_]++r,r1,by simp[r2],?_⟩;rw[Tv];simp[-List.map_append,-List.append_assoc,-Int.natCast_add,hi,gH hx,fq (d:=aK.fail) (l:=acc) (x:=x.at_) (by omega),r4,iX (d:=aK.fail) (l:=acc++[x.at_]) r2 (by simp;omega),gL (d:=aK.fail) r2,JU (show i0<1000000000 by omega)]
 ·rw[Tv];simp
theorem ah5(l:List Dt)(p q r s:PV)(hb:bU Dt.aw l≤1000000):∃acc':List Int,acc'.length=bU Dt.aw l∧(l=[]∧acc'=[]∧ev (yT (iv 0) (iv l.length) (jm l) p q r s)=some (0,[p,q,r,s,nS])∨l≠[]∧acc'≠[]∧ev (yT (iv 0) (iv l.length) (jm l) p q r s)=some (1,[p,q,r,s,.rows (bP acc')])):=by
 have hlen:l.length≤1000000:=Nat.le_trans (fU _ Dt.aw_pos _) (by omega);refine xD l Dt.aw (yT (iv 0) (iv l.length) (jm l) p q r s) (fun i0 acc=>XK (iv i0) (iv l.length) (jm l) (bP acc) p q r s) (0,[p,q,r,s,nS]) (fun acc=>(1,[p,q,r,s,.rows (bP acc)])) 1000000
  (fun x hx hi hb=>?_) (fun hz=>?_) (fun i0 x acc hx hi hb=>?_) (fun acc=>?_) hb
 ·obtain⟨a1,l1,c1⟩:=alJ x.cons (iv 0) (iv l.length) (jm l) p q r s [x.at_] (by unfold Dt.aw at hb;simp;omega)
  refine⟨a1,by unfold Dt.aw;simp at l1;omega,by rcases c1 with⟨_,rfl,_⟩|⟨_,h,_⟩;simp;exact h,?_⟩;have hx':∀k',fB PG aK.fail 35 (.pv (jm l)) (.pv (iv 0)) k'=_:=fun k'=>Dq (d:=aK.fail) (k:=k') hx
  rw[IW];have e0:bP [x.at_]=[[iv x.at_]]:=rfl;rcases c1 with⟨_,rfl,c1⟩|⟨_,_,c1⟩
  all_goals
   (first|simp only[e0] at c1 ⊢ | simp only[e0] at c1|skip)
   simp[-List.map_append,-Int.natCast_add,hi,hx',c1,aJ]
 ·rw[IW];simp[hz]
 ·obtain⟨a1,l1,c1⟩:=alJ x.cons (iv i0) (iv l.length) (jm l) p q r s (acc++[x.at_]) (by unfold Dt.aw at hb;simp;omega)
  refine⟨a1,by unfold Dt.aw;simp at l1;omega,by rcases c1 with⟨_,rfl,_⟩|⟨_,h,_⟩;simp;exact h,?_⟩;rw[aae];have e0:bP [x.at_]=[[iv x.at_]]:=rfl;rcases c1 with⟨_,rfl,c1⟩|⟨_,_,c1⟩
  all_goals
   (first|simp only[e0] at c1 ⊢ | simp only[e0] at c1|skip)
   simp[-List.map_append,-Int.natCast_add,hi,Dq hx,fq (d:=aK.fail) (l:=acc) (x:=x.at_) (by omega),c1,JU (show i0<1000000000 by omega)]
 ·rw[aae];simp
theorem ah7(l:List Cl)(p q r s:PV)(hb:bU Cl.aw l≤1000000):∃acc':List Int,acc'.length=bU Cl.aw l∧(l=[]∧acc'=[]∧ev (yS (iv 0) (iv l.length) (cls l) p q r s)=some (0,[p,q,r,s,nS])∨l≠[]∧acc'≠[]∧ev (yS (iv 0) (iv l.length) (cls l) p q r s)=some (1,[p,q,r,s,.rows (bP acc')])):=by
 have hlen:l.length≤1000000:=Nat.le_trans (fU _ Cl.aw_pos _) (by omega);refine xD l Cl.aw (yS (iv 0) (iv l.length) (cls l) p q r s) (fun i0 acc=>XI (iv i0) (iv l.length) (cls l) (bP acc) p q r s) (0,[p,q,r,s,nS]) (fun acc=>(1,[p,q,r,s,.rows (bP acc)])) 1000000
  (fun x hx hi hb=>?_) (fun hz=>?_) (fun i0 x acc hx hi hb=>?_) (fun acc=>?_) hb
 ·obtain⟨a1,l1,c1⟩:=adt x.methods (iv 0) (iv l.length) (cls l) (sv x.name) (sv x.var) (strs x.supers) (mJ x.methods) (bn x.defaults) (iv x.at_) p q r s [x.at_] (by unfold Cl.aw at hb;simp;omega)
  obtain⟨a2,l2,c2⟩:=ads x.defaults (iv 0) (iv l.length) (cls l) p q r s a1 (by rw[l1];unfold Cl.aw at hb;rw[Bd.awL_sum] at hb;simp;omega);have n1:a1≠[]:=by rcases c1 with⟨_,rfl,_⟩|⟨_,h,_⟩;simp;exact h
  refine⟨a2,by unfold Cl.aw;rw[Bd.awL_sum];simp at l1;omega,by rcases c2 with⟨_,rfl,_⟩|⟨_,h,_⟩;exact n1;exact h,?_⟩;have hx':∀k',fB PG aK.fail 36 (.pv (cls l)) (.pv (iv 0)) k'=_:=fun k'=>sN (d:=aK.fail) (k:=k') hx
  rw[IV];have e0:bP [x.at_]=[[iv x.at_]]:=rfl;rcases c1 with⟨_,rfl,c1⟩|⟨_,_,c1⟩<;>rcases c2 with⟨_,rfl,c2⟩|⟨_,_,c2⟩
  all_goals
   (first|simp only[e0] at c1 c2 ⊢ | simp only[e0] at c1 c2|simp only[e0] at c1|skip)
   simp[-List.map_append,-Int.natCast_add,hi,hx',c1,c2,aJ]
 ·rw[IV];simp[hz]
 ·obtain⟨a1,l1,c1⟩:=adt x.methods (iv i0) (iv l.length) (cls l) (sv x.name) (sv x.var) (strs x.supers) (mJ x.methods) (bn x.defaults) (iv x.at_) p q r s (acc++[x.at_]) (by unfold Cl.aw at hb;simp;omega)
  obtain⟨a2,l2,c2⟩:=ads x.defaults (iv i0) (iv l.length) (cls l) p q r s a1 (by rw[l1];unfold Cl.aw at hb;rw[Bd.awL_sum] at hb;simp;omega);have n1:a1≠[]:=by rcases c1 with⟨_,rfl,_⟩|⟨_,h,_⟩;simp;exact h
  refine⟨a2,by unfold Cl.aw;rw[Bd.awL_sum];simp at l1;omega,by rcases c2 with⟨_,rfl,_⟩|⟨_,h,_⟩;exact n1;exact h,?_⟩;rw[Z8];have e0:bP [x.at_]=[[iv x.at_]]:=rfl;rcases c1 with⟨_,rfl,c1⟩|⟨_,_,c1⟩<;>rcases c2 with⟨_,rfl,c2⟩|⟨_,_,c2⟩
  all_goals
   (first|simp only[e0] at c1 c2 ⊢ | simp only[e0] at c1 c2|simp only[e0] at c1|skip)
   simp[-List.map_append,-Int.natCast_add,hi,sN hx,fq (d:=aK.fail) (l:=acc) (x:=x.at_) (by omega),c1,c2,JU (show i0<1000000000 by omega)]
 ·rw[Z8];simp
theorem ah6(l:List Cl)(p q r s:PV)(acc:List Int)(hb:acc.length+bU Cl.aw l≤1000000):∃acc':List Int,acc'.length=acc.length+bU Cl.aw l∧(l=[]∧acc'=acc∧ev (GV (iv 0) (iv l.length) (cls l) (bP acc) p q r s)=some (0,[p,q,r,s,.rows (bP acc)])∨l≠[]∧acc'≠[]∧ev (GV (iv 0) (iv l.length) (cls l) (bP acc) p q r s)=some (1,[p,q,r,s,.rows (bP acc')])):=by
 have hlen:l.length≤1000000:=Nat.le_trans (fU _ Cl.aw_pos _) (by omega);refine jf l Cl.aw (fun acc=>GV (iv 0) (iv l.length) (cls l) (bP acc) p q r s) (fun i0 acc=>XH (iv i0) (iv l.length) (cls l) (bP acc) p q r s) (fun acc=>(0,[p,q,r,s,.rows (bP acc)])) (fun acc=>(1,[p,q,r,s,.rows (bP acc)])) 1000000
  (fun x acc hx hi hb=>?_) (fun acc hz=>?_) (fun i0 x acc hx hi hb=>?_) (fun acc=>?_) acc hb
 ·obtain⟨a1,l1,c1⟩:=adt x.methods (iv 0) (iv l.length) (cls l) (sv x.name) (sv x.var) (strs x.supers) (mJ x.methods) (bn x.defaults) (iv x.at_) p q r s (acc++[x.at_]) (by unfold Cl.aw at hb;simp;omega)
  obtain⟨a2,l2,c2⟩:=ads x.defaults (iv 0) (iv l.length) (cls l) p q r s a1 (by rw[l1];unfold Cl.aw at hb;rw[Bd.awL_sum] at hb;simp;omega);have n1:a1≠[]:=by rcases c1 with⟨_,rfl,_⟩|⟨_,h,_⟩;simp;exact h
  refine⟨a2,by unfold Cl.aw;rw[Bd.awL_sum];simp at l1;omega,by rcases c2 with⟨_,rfl,_⟩|⟨_,h,_⟩;exact n1;exact h,?_⟩;have hx':∀k',fB PG aK.fail 36 (.pv (cls l)) (.pv (iv 0)) k'=_:=fun k'=>sN (d:=aK.fail) (k:=k') hx
  rw[Z9];have e0:bP [x.at_]=[[iv x.at_]]:=rfl;rcases c1 with⟨_,rfl,c1⟩|⟨_,_,c1⟩<;>rcases c2 with⟨_,rfl,c2⟩|⟨_,_,c2⟩
  all_goals
   (first|simp only[e0] at c1 c2 ⊢ | simp only[e0] at c1 c2|simp only[e0] at c1|skip)
   simp[-List.map_append,-Int.natCast_add,hi,hx',fq (d:=aK.fail) (l:=acc) (x:=x.at_) (by omega),c1,c2,aJ]
 ·rw[Z9];simp[hz]
 ·obtain⟨a1,l1,c1⟩:=adt x.methods (iv i0) (iv l.length) (cls l) (sv x.name) (sv x.var) (strs x.supers) (mJ x.methods) (bn x.defaults) (iv x.at_) p q r s (acc++[x.at_]) (by unfold Cl.aw at hb;simp;omega)
  obtain⟨a2,l2,c2⟩:=ads x.defaults (iv i0) (iv l.length) (cls l) p q r s a1 (by rw[l1];unfold Cl.aw at hb;rw[Bd.awL_sum] at hb;simp;omega);have n1:a1≠[]:=by rcases c1 with⟨_,rfl,_⟩|⟨_,h,_⟩;simp;exact h
  refine⟨a2,by unfold Cl.aw;rw[Bd.awL_sum];simp at l1;omega,by rcases c2 with⟨_,rfl,_⟩|⟨_,h,_⟩;exact n1;exact h,?_⟩;rw[Z7];have e0:bP [x.at_]=[[iv x.at_]]:=rfl;rcases c1 with⟨_,rfl,c1⟩|⟨_,_,c1⟩<;>rcases c2 with⟨_,rfl,c2⟩|⟨_,_,c2⟩
  all_goals
   (first|simp only[e0] at c1 c2 ⊢ | simp only[e0] at c1 c2|simp only[e0] at c1|skip)
   simp[-List.map_append,-Int.natCast_add,hi,sN hx,fq (d:=aK.fail) (l:=acc) (x:=x.at_) (by omega),c1,c2,JU (show i0<1000000000 by omega)]
 ·rw[Z7];simp
theorem ah4(l:List It)(p q r s:PV)(hb:bU It.aw l≤1000000):∃acc':List Int,acc'.length=bU It.aw l∧(l=[]∧acc'=[]∧ev (tX (iv 0) (iv l.length) (its l) p q r s)=some (0,[p,q,r,s,nS])∨l≠[]∧acc'≠[]∧ev (tX (iv 0) (iv l.length) (its l) p q r s)=some (1,[p,q,r,s,.rows (bP acc')])):=by
 have hlen:l.length≤1000000:=Nat.le_trans (fU _ It.aw_pos _) (by omega);refine xD l It.aw (tX (iv 0) (iv l.length) (its l) p q r s) (fun i0 acc=>RN (iv i0) (iv l.length) (its l) (bP acc) p q r s) (0,[p,q,r,s,nS]) (fun acc=>(1,[p,q,r,s,.rows (bP acc)])) 1000000
  (fun x hx hi hb=>?_) (fun hz=>?_) (fun i0 x acc hx hi hb=>?_) (fun acc=>?_) hb
 ·obtain⟨a1,l1,c1⟩:=Sv x.binds (iv 0) (iv l.length) (its l) p q r s [x.at_] (by unfold It.aw at hb;rw[Bd.awL_sum] at hb;simp;omega)
  refine⟨a1,by unfold It.aw;rw[Bd.awL_sum];simp at l1;omega,by rcases c1 with⟨_,rfl,_⟩|⟨_,h,_⟩;simp;exact h,?_⟩;have hx':∀k',fB PG aK.fail 37 (.pv (its l)) (.pv (iv 0)) k'=_:=fun k'=>sK (d:=aK.fail) (k:=k') hx
  rw[Bl];have e0:bP [x.at_]=[[iv x.at_]]:=rfl;rcases c1 with⟨_,rfl,c1⟩|⟨_,_,c1⟩
  all_goals
   (first|simp only[e0] at c1 ⊢ | simp only[e0] at c1|skip)
   simp[-List.map_append,-Int.natCast_add,hi,hx',c1,aJ]
 ·rw[Bl];simp[hz]
 ·obtain⟨a1,l1,c1⟩:=Sv x.binds (iv i0) (iv l.length) (its l) p q r s (acc++[x.at_]) (by unfold It.aw at hb;rw[Bd.awL_sum] at hb;simp;omega)
  refine⟨a1,by unfold It.aw;rw[Bd.awL_sum];simp at l1;omega,by rcases c1 with⟨_,rfl,_⟩|⟨_,h,_⟩;simp;exact h,?_⟩;rw[TA];have e0:bP [x.at_]=[[iv x.at_]]:=rfl;rcases c1 with⟨_,rfl,c1⟩|⟨_,_,c1⟩
  all_goals
   (first|simp only[e0] at c1 ⊢ | simp only[e0] at c1|skip)
   simp[-List.map_append,-Int.natCast_add,hi,sK hx,fq (d:=aK.fail) (l:=acc) (x:=x.at_) (by omega),c1,JU (show i0<1000000000 by omega)]
 ·rw[TA];simp
theorem NC(l:List It)(p q r s:PV)(acc:List Int)(hb:acc.length+bU It.aw l≤1000000):∃acc':List Int,acc'.length=acc.length+bU It.aw l∧(l=[]∧acc'=acc∧ev (AB (iv 0) (iv l.length) (its l) (bP acc) p q r s)=some (0,[p,q,r,s,.rows (bP acc)])∨l≠[]∧acc'≠[]∧ev (AB (iv 0) (iv l.length) (its l) (bP acc) p q r s)=some (1,[p,q,r,s,.rows (bP acc')])):=by
 have hlen:l.length≤1000000:=Nat.le_trans (fU _ It.aw_pos _) (by omega);refine jf l It.aw (fun acc=>AB (iv 0) (iv l.length) (its l) (bP acc) p q r s) (fun i0 acc=>RJ (iv i0) (iv l.length) (its l) (bP acc) p q r s) (fun acc=>(0,[p,q,r,s,.rows (bP acc)])) (fun acc=>(1,[p,q,r,s,.rows (bP acc)])) 1000000
  (fun x acc hx hi hb=>?_) (fun acc hz=>?_) (fun i0 x acc hx hi hb=>?_) (fun acc=>?_) acc hb
 ·obtain⟨a1,l1,c1⟩:=Sv x.binds (iv 0) (iv l.length) (its l) p q r s (acc++[x.at_]) (by unfold It.aw at hb;rw[Bd.awL_sum] at hb;simp;omega)
  refine⟨a1,by unfold It.aw;rw[Bd.awL_sum];simp at l1;omega,by rcases c1 with⟨_,rfl,_⟩|⟨_,h,_⟩;simp;exact h,?_⟩;have hx':∀k',fB PG aK.fail 37 (.pv (its l)) (.pv (iv 0)) k'=_:=fun k'=>sK (d:=aK.fail) (k:=k') hx
  rw[TB];have e0:bP [x.at_]=[[iv x.at_]]:=rfl;rcases c1 with⟨_,rfl,c1⟩|⟨_,_,c1⟩
  all_goals
   (first|simp only[e0] at c1 ⊢ | simp only[e0] at c1|skip)
   simp[-List.map_append,-Int.natCast_add,hi,hx',fq (d:=aK.fail) (l:=acc) (x:=x.at_) (by omega),c1,aJ]
 ·rw[TB];simp[hz]
 ·obtain⟨a1,l1,c1⟩:=Sv x.binds (iv i0) (iv l.length) (its l) p q r s (acc++[x.at_]) (by unfold It.aw at hb;rw[Bd.awL_sum] at hb;simp;omega)
  refine⟨a1,by unfold It.aw;rw[Bd.awL_sum];simp at l1;omega,by rcases c1 with⟨_,rfl,_⟩|⟨_,h,_⟩;simp;exact h,?_⟩;rw[Tz];have e0:bP [x.at_]=[[iv x.at_]]:=rfl;rcases c1 with⟨_,rfl,c1⟩|⟨_,_,c1⟩
  all_goals
   (first|simp only[e0] at c1 ⊢ | simp only[e0] at c1|skip)
   simp[-List.map_append,-Int.natCast_add,hi,sK hx,fq (d:=aK.fail) (l:=acc) (x:=x.at_) (by omega),c1,JU (show i0<1000000000 by omega)]
 ·rw[Tz];simp
theorem ah8(l:List Bd)(hb:bU Bd.aw l≤1000000):∃acc':List Int,acc'.length=bU Bd.aw l∧(l=[]∧acc'=[]∧ev (tV (iv 0) (iv l.length) (bn l))=some (0,[nS])∨l≠[]∧acc'≠[]∧ev (tV (iv 0) (iv l.length) (bn l))=some (1,[.rows (bP acc')])):=by
 have hlen:l.length≤1000000:=Nat.le_trans (fU _ Bd.aw_pos _) (by omega);refine xD l Bd.aw (tV (iv 0) (iv l.length) (bn l)) (fun i0 acc=>RH (iv i0) (iv l.length) (bn l) (bP acc)) (0,[nS]) (fun acc=>(1,[.rows (bP acc)])) 1000000
  (fun x hx hi hb=>?_) (fun hz=>?_) (fun i0 x acc hx hi hb=>?_) (fun acc=>?_) hb
 ·obtain⟨r,r1,r2,r3,r4⟩:=Ad x [] (by simpa using hb)
  simp only[List.nil_append,List.length_nil,Nat.zero_add] at r1;refine⟨[x.at_]++r,r1,by simp,?_⟩;have hx':∀k',fB PG aK.fail 38 (.pv (bn l)) (.pv (iv 0)) k'=_:=fun k'=>gH (d:=aK.fail) (k:=k') hx
  have ha:∀kp,lu PG aK.fail 47 (.pv (.rows [[iv x.at_]])) (.pv (.rows (bP r))) kp=kp (.rows (bP ([x.at_]++r))):=fun kp=>iX (d:=aK.fail) (l:=[x.at_]) r2 (by simp;omega)
  rw[Bj];simp[-List.map_append,-List.append_assoc,-List.cons_append,-List.map_cons,hi,hx',r4,ha,gL (d:=aK.fail) r2,aJ]
 ·rw[Bj];simp[hz]
 ·obtain⟨r,r1,r2,r3,r4⟩:=Ad x acc hb
  refine⟨acc++[x.at_]++r,r1,by simp[r2],?_⟩;rw[Tp];simp[-List.map_append,-List.append_assoc,-Int.natCast_add,hi,gH hx,fq (d:=aK.fail) (l:=acc) (x:=x.at_) (by omega),r4,iX (d:=aK.fail) (l:=acc++[x.at_]) r2 (by simp;omega),gL (d:=aK.fail) r2,JU (show i0<1000000000 by omega)]
 ·rw[Tp];simp
theorem vM(l:List Bd)(acc:List Int)(hb:acc.length+bU Bd.aw l≤1000000):∃acc':List Int,acc'.length=acc.length+bU Bd.aw l∧(l=[]∧acc'=acc∧ev (Az (iv 0) (iv l.length) (bn l) (bP acc))=some (0,[.rows (bP acc)])∨l≠[]∧acc'≠[]∧ev (Az (iv 0) (iv l.length) (bn l) (bP acc))=some (1,[.rows (bP acc')])):=by
 have hlen:l.length≤1000000:=Nat.le_trans (fU _ Bd.aw_pos _) (by omega);refine jf l Bd.aw (fun acc=>Az (iv 0) (iv l.length) (bn l) (bP acc)) (fun i0 acc=>RG (iv i0) (iv l.length) (bn l) (bP acc)) (fun acc=>(0,[.rows (bP acc)])) (fun acc=>(1,[.rows (bP acc)])) 1000000
  (fun x acc hx hi hb=>?_) (fun acc hz=>?_) (fun i0 x acc hx hi hb=>?_) (fun acc=>?_) acc hb
 ·obtain⟨r,r1,r2,r3,r4⟩:=Ad x acc hb
  refine⟨acc++[x.at_]++r,r1,by simp[r2],?_⟩;have hx':∀k',fB PG aK.fail 38 (.pv (bn l)) (.pv (iv 0)) k'=_:=fun k'=>gH (d:=aK.fail) (k:=k') hx
  rw[Tq];simp[-List.map_append,-List.append_assoc,hi,hx',fq (d:=aK.fail) (l:=acc) (x:=x.at_) (by omega),r4,iX (d:=aK.fail) (l:=acc++[x.at_]) r2 (by simp;omega),gL (d:=aK.fail) r2,aJ]
 ·rw[Tq];simp[hz]
 ·obtain⟨r,r1,r2,r3,r4⟩:=Ad x acc hb
  refine⟨acc++[x.at_]++r,r1,by simp[r2],?_⟩;rw[Tn];simp[-List.map_append,-List.append_assoc,-Int.natCast_add,hi,gH hx,fq (d:=aK.fail) (l:=acc) (x:=x.at_) (by omega),r4,iX (d:=aK.fail) (l:=acc++[x.at_]) r2 (by simp;omega),gL (d:=aK.fail) r2,JU (show i0<1000000000 by omega)]
 ·rw[Tn];simp
theorem Mq(v:Pg)(hv:v.aw≤1000000):∃l:List Int,l.length≤1000000∧ev (UH (.rows (v.datas.map Dt.cells)) (.rows (v.classes.map Cl.cells)) (.rows (v.insts.map It.cells)) (.rows (v.binds.map Bd.cells)))=some (0,[.rows (bP l)]):=by
 unfold Pg.aw at hv;rw[Bd.awL_sum] at hv;have hq:∃(l:List Int) (k:Nat) (x:PV),l.length≤1000000∧ED x=.rows (bP l)∧ev (q14 (jm v.datas) (cls v.classes) (its v.insts) (bn v.binds))=some (k,[x]):=by
  generalize hP:jm v.datas=P at *;generalize hQ:cls v.classes=Q at *;generalize hR:its v.insts=R at *;generalize hS:bn v.binds=S at *;have hl1:∀k',gm PG aK.fail 35 (.pv P) k'=k' (.pv (iv v.datas.length)):=fun k'=>by rw[←hP];simp
  have hl2:∀k',gm PG aK.fail 36 (.pv Q) k'=k' (.pv (iv v.classes.length)):=fun k'=>by rw[←hQ];simp
  have hl3:∀k',gm PG aK.fail 37 (.pv R) k'=k' (.pv (iv v.insts.length)):=fun k'=>by rw[←hR];simp
  have hl4:∀k',gm PG aK.fail 38 (.pv S) k'=k' (.pv (iv v.binds.length)):=fun k'=>by rw[←hS];simp
  obtain⟨a1,n1,c1⟩:=ah5 v.datas P Q R S (by omega);rw[hP] at c1;rcases c1 with⟨_,rfl,c1⟩|⟨_,_,c1⟩
  ·obtain⟨a2,n2,c2⟩:=ah7 v.classes P Q R S (by omega)
   rw[hQ] at c2;rcases c2 with⟨_,rfl,c2⟩|⟨_,_,c2⟩
   ·obtain⟨a3,n3,c3⟩:=ah4 v.insts P Q R S (by omega)
    rw[hR] at c3;rcases c3 with⟨_,rfl,c3⟩|⟨_,_,c3⟩
    ·obtain⟨a4,n4,c4⟩:=ah8 v.binds (by omega)
     rw[hS] at c4;rcases c4 with⟨_,rfl,c4⟩|⟨_,_,c4⟩
     ·exact⟨[],_,nS,by first|omega|simp,rfl,ax.of (by rw[EY];simp[hl1,hl2,hl3,hl4,c1,c2,c3,c4];rfl)⟩
     ·exact⟨a4,_,.rows (bP a4),by first|omega|simp,rfl,ax.of (by rw[EY];simp[hl1,hl2,hl3,hl4,c1,c2,c3,c4];rfl)⟩
    ·obtain⟨a4,n4,c4⟩:=vM v.binds a3 (by omega)
     rw[hS] at c4;rcases c4 with⟨_,rfl,c4⟩|⟨_,_,c4⟩
     ·exact⟨a4,_,.rows (bP a4),by first|omega|simp,rfl,ax.of (by rw[EY];simp[hl1,hl2,hl3,hl4,c1,c2,c3,c4];rfl)⟩
     ·exact⟨a4,_,.rows (bP a4),by first|omega|simp,rfl,ax.of (by rw[EY];simp[hl1,hl2,hl3,hl4,c1,c2,c3,c4];rfl)⟩
   ·obtain⟨a3,n3,c3⟩:=NC v.insts P Q R S a2 (by omega)
    rw[hR] at c3;rcases c3 with⟨_,rfl,c3⟩|⟨_,_,c3⟩
    ·obtain⟨a4,n4,c4⟩:=vM v.binds a3 (by omega)
     rw[hS] at c4;rcases c4 with⟨_,rfl,c4⟩|⟨_,_,c4⟩
     ·exact⟨a4,_,.rows (bP a4),by first|omega|simp,rfl,ax.of (by rw[EY];simp[hl1,hl2,hl3,hl4,c1,c2,c3,c4];rfl)⟩
     ·exact⟨a4,_,.rows (bP a4),by first|omega|simp,rfl,ax.of (by rw[EY];simp[hl1,hl2,hl3,hl4,c1,c2,c3,c4];rfl)⟩
    ·obtain⟨a4,n4,c4⟩:=vM v.binds a3 (by omega)
     rw[hS] at c4;rcases c4 with⟨_,rfl,c4⟩|⟨_,_,c4⟩
     ·exact⟨a4,_,.rows (bP a4),by first|omega|simp,rfl,ax.of (by rw[EY];simp[hl1,hl2,hl3,hl4,c1,c2,c3,c4];rfl)⟩
     ·exact⟨a4,_,.rows (bP a4),by first|omega|simp,rfl,ax.of (by rw[EY];simp[hl1,hl2,hl3,hl4,c1,c2,c3,c4];rfl)⟩
  ·obtain⟨a2,n2,c2⟩:=ah6 v.classes P Q R S a1 (by omega)
   rw[hQ] at c2;rcases c2 with⟨_,rfl,c2⟩|⟨_,_,c2⟩
   ·obtain⟨a3,n3,c3⟩:=NC v.insts P Q R S a2 (by omega)
    rw[hR] at c3;rcases c3 with⟨_,rfl,c3⟩|⟨_,_,c3⟩
    ·obtain⟨a4,n4,c4⟩:=vM v.binds a3 (by omega)
     rw[hS] at c4;rcases c4 with⟨_,rfl,c4⟩|⟨_,_,c4⟩
     ·exact⟨a4,_,.rows (bP a4),by first|omega|simp,rfl,ax.of (by rw[EY];simp[hl1,hl2,hl3,hl4,c1,c2,c3,c4];rfl)⟩
     ·exact⟨a4,_,.rows (bP a4),by first|omega|simp,rfl,ax.of (by rw[EY];simp[hl1,hl2,hl3,hl4,c1,c2,c3,c4];rfl)⟩
    ·obtain⟨a4,n4,c4⟩:=vM v.binds a3 (by omega)
     rw[hS] at c4;rcases c4 with⟨_,rfl,c4⟩|⟨_,_,c4⟩
     ·exact⟨a4,_,.rows (bP a4),by first|omega|simp,rfl,ax.of (by rw[EY];simp[hl1,hl2,hl3,hl4,c1,c2,c3,c4];rfl)⟩
     ·exact⟨a4,_,.rows (bP a4),by first|omega|simp,rfl,ax.of (by rw[EY];simp[hl1,hl2,hl3,hl4,c1,c2,c3,c4];rfl)⟩
   ·obtain⟨a3,n3,c3⟩:=NC v.insts P Q R S a2 (by omega)
    rw[hR] at c3;rcases c3 with⟨_,rfl,c3⟩|⟨_,_,c3⟩
    ·obtain⟨a4,n4,c4⟩:=vM v.binds a3 (by omega)
     rw[hS] at c4;rcases c4 with⟨_,rfl,c4⟩|⟨_,_,c4⟩
     ·exact⟨a4,_,.rows (bP a4),by first|omega|simp,rfl,ax.of (by rw[EY];simp[hl1,hl2,hl3,hl4,c1,c2,c3,c4];rfl)⟩
     ·exact⟨a4,_,.rows (bP a4),by first|omega|simp,rfl,ax.of (by rw[EY];simp[hl1,hl2,hl3,hl4,c1,c2,c3,c4];rfl)⟩
    ·obtain⟨a4,n4,c4⟩:=vM v.binds a3 (by omega)
     rw[hS] at c4;rcases c4 with⟨_,rfl,c4⟩|⟨_,_,c4⟩
     ·exact⟨a4,_,.rows (bP a4),by first|omega|simp,rfl,ax.of (by rw[EY];simp[hl1,hl2,hl3,hl4,c1,c2,c3,c4];rfl)⟩
     ·exact⟨a4,_,.rows (bP a4),by first|omega|simp,rfl,ax.of (by rw[EY];simp[hl1,hl2,hl3,hl4,c1,c2,c3,c4];rfl)⟩
 obtain⟨l,k,x,h1,h2,h3⟩:=hq;refine⟨l,h1,ax.of ?_⟩;have h3:ev (q14 (.rows (v.datas.map Dt.cells)) (.rows (v.classes.map Cl.cells)) (.rows (v.insts.map It.cells)) (.rows (v.binds.map Bd.cells)))=some (k,[x]):=h3;rw[aiu];simp[h3,h2]
set_option maxRecDepth 10000
theorem Ic{t:TypeId}(h:∀ty,gK PG .len #[t] ty [.pv nS]=some (.pv (.lit (.int .i64 0))))(k:AV→aK):gm PG aK.fail t (.pv nS) k=k (.pv (iv 0)):=eO (fun r=>by
 constructor
 ·intro hr
  have h1:=hr 0;rw[h 0] at h1;exact(Option.some.inj h1).symm
 ·rintro rfl;exact h) (bq _)
theorem NV(k:AV→aK):gm PG aK.fail 35 (.pv nS) k=k (.pv (iv 0)):=Ic (fun ty=>by kernel_rfl) k
theorem NU(k:AV→aK):gm PG aK.fail 36 (.pv nS) k=k (.pv (iv 0)):=Ic (fun ty=>by kernel_rfl) k
theorem NT(k:AV→aK):gm PG aK.fail 37 (.pv nS) k=k (.pv (iv 0)):=Ic (fun ty=>by kernel_rfl) k
theorem NR(k:AV→aK):gm PG aK.fail 38 (.pv nS) k=k (.pv (iv 0)):=Ic (fun ty=>by kernel_rfl) k
theorem NQ(k:AV→aK):gm PG aK.fail 35 (.pv (.rows [])) k=k (.pv (iv 0)):=Lc (d:=aK.fail) (k:=k) []
theorem NP(k:AV→aK):gm PG aK.fail 36 (.pv (.rows [])) k=k (.pv (iv 0)):=Ld (d:=aK.fail) (k:=k) []
theorem NN(k:AV→aK):gm PG aK.fail 37 (.pv (.rows [])) k=k (.pv (iv 0)):=Lb (d:=aK.fail) (k:=k) []
theorem NM(k:AV→aK):gm PG aK.fail 38 (.pv (.rows [])) k=k (.pv (iv 0)):=Le (d:=aK.fail) (k:=k) []
theorem tK:ev (q12 nS nS nS nS (.rows []) (.rows []) (.rows []) (.rows []))=some (0,[bv true]):=by
 have b1:ev (vE (iv 0) nS (.rows []))=some (1,[]):=ax.of (by rw[Oe];simp[NR,NM]);have b2:ev (q37 nS (.rows []))=some (0,[bv true]):=ax.of (by rw[h37];simp[NR,NM,b1]);have l1:ev (vH (iv 0) nS nS nS nS (.rows []) (.rows []) (.rows []) (.rows []))=some (1,[nS,nS,nS,nS,.rows [],.rows [],.rows [],.rows []]):=ax.of (by rw[Oi];simp[NV,NQ]);have l2:ev (vG (iv 0) nS nS nS nS (.rows []) (.rows []) (.rows []) (.rows []))=some (1,[nS,nS,nS,nS,.rows [],.rows [],.rows [],.rows []]):=ax.of (by rw[Oh];simp[NU,NP]);have l3:ev (vF (iv 0) nS nS nS nS (.rows []) (.rows []) (.rows []) (.rows []))=some (1,[nS,nS,nS,nS,.rows [],.rows [],.rows [],.rows []]):=ax.of (by rw[Og];simp[NT,NN]);exact ax.of (by rw[h12];simp[NV,NQ,NU,NP,NT,NN,l1,l2,l3,b2])
theorem amE(b:ByteArray)(hb:b.size≤1000000):∃(x0 x1 x2 x3 y0 y1 y2 y3:PV) (e w:Int),ev (q10 (sv b))=some (0,[x0,x1,x2,x3,iv e,iv w])∧ev (UI (sv b))=some (0,[y0,y1,y2,y3,iv e,iv w])∧
  ev (q12 x0 x1 x2 x3 y0 y1 y2 y3)=some (0,[bv true]):=by
 have h1:=RX b hb;have h2:=Yh b;cases ht:jL b with
 |error p=>
  obtain⟨c,p⟩:=p;rw[ht] at h1 h2;exact⟨_,_,_,_,_,_,_,_,_,_,h1,h2.2.2,tK⟩
 |ok L=>
  rw[ht] at h1 h2;obtain⟨m0,h2⟩:=h2;have h2:=h2 m0 (Nat.le_refl _);have h1:=h1 m0;cases hr:eG L m0 ⟨⟨[],[],[]⟩,[]⟩ 0 0 with
  |out=>rw[hr] at h2;exact h2.elim
  |err e w=>
   rw[hr] at h1 h2;exact⟨_,_,_,_,_,_,_,_,_,_,h1,h2.2,tK⟩
  |ok v b'=>
   rw[hr] at h1 h2;obtain⟨h3,⟨k1,k2⟩,⟨k3,k4⟩,⟨k5,k6⟩,⟨k7,k8⟩⟩:=h2;exact⟨_,_,_,_,_,_,_,_,0,0,h1,h3,FD v.datas v.classes v.insts v.binds k1 k2 k3 k4 k5 k6 k7 k8⟩
theorem adf:ev q5=some (0,[bv true]):=by
 have ha:ev q15=some (0,[bv true]):=ax.of (by rw[h15];rfl);obtain⟨b,hb⟩:∃b,z46=sv b:=⟨_,rfl⟩;have hz:b.size≤1000000:=by
  have:z46=sv b→b.size≤1000000:=fun h=>by
   injection h with h;injection h with h;rw[←h];decide
  exact this hb
 obtain⟨x0,x1,x2,x3,y0,y1,y2,y3,e,w,k1,k2,k3⟩:=amE b hz;have s1:ev q16=some (0,[z46]):=ax.of (by rw[h16];simp);have s2:ev q17=some (0,[x0,x1,x2,x3]):=ax.of (by rw[h17,hb];simp[k1]);have s3:ev q18=some (0,[y0,y1,y2,y3]):=ax.of (by rw[h18,hb];simp[k2]);refine ax.of ?_;rw[h5];rw[hb] at s1 ⊢;simp[ha,s1,s2,s3,k3]
set_option maxRecDepth 10000
theorem acZ{β:Type}{d:β}{k:AV→β}(l:List Int):gm PG d 47 (.pv (.rows (bP l))) k=k (.pv (iv l.length)):=Sl (e:=eZ) EP l
theorem adu{β:Type}{d:β}{k:AV→β}{l:List Int}{i:Nat}{x:Int}(h:l[i]? = some x):fB PG d 47 (.pv (.rows (bP l))) (.pv (.lit (.int .i64 (i:Int)))) k=k (.cptr [iv x]):=Sw (e:=eZ) EP agi h
theorem adp(l:List Int)(hl:l.length≤1000000):ev (q13 (.rows (bP l)) (.rows (bP l)))=some (0,[bv true]):=by
 have lp:ev (yU (iv 0) (iv l.length) (.rows (bP l)) (.rows (bP l)))=some (1,[]):=fQ l (fun i0=>yU (iv (i0:Int)) (iv l.length) (.rows (bP l)) (.rows (bP l))) (1,[]) (by unfold dF;omega) (fun i0 j0 x e0 hx hi0 hm=>by
   show body PG EE TT ev (yU (iv (i0:Int)) (iv l.length) (.rows (bP l)) (.rows (bP l)))=gX (ev (yU (iv (j0:Int)) (iv l.length) (.rows (bP l)) (.rows (bP l))));rw[aam];have hx':=fun k'=>adu (d:=aK.fail) (k:=k') hx
   generalize PV.rows (bP l)=Z at *;simp[hi0,hx',e0]) (by
   show body PG EE TT ev (yU (iv (l.length:Int)) (iv l.length) (.rows (bP l)) (.rows (bP l)))=_;rw[aam];simp)
 have hlen:=fun k'=>acZ (d:=aK.fail) (k:=k') l
 refine ax.of ?_;rw[h13];generalize PV.rows (bP l)=Z at *;simp[hlen,lp]
theorem JM:ev (UH nS nS nS nS)=some (0,[.rows []]):=by
 have l1:ev (yT (iv 0) (iv 0) nS nS nS nS nS)=some (0,[nS,nS,nS,nS,nS]):=ax.of (by rw[IW];simp);have l2:ev (yS (iv 0) (iv 0) nS nS nS nS nS)=some (0,[nS,nS,nS,nS,nS]):=ax.of (by rw[IV];simp);have l3:ev (tX (iv 0) (iv 0) nS nS nS nS nS)=some (0,[nS,nS,nS,nS,nS]):=ax.of (by rw[Bl];simp);have l4:ev (tV (iv 0) (iv 0) nS)=some (0,[nS]):=ax.of (by rw[Bj];simp);have hq:ev (q14 nS nS nS nS)=some (0,[nS]):=ax.of (by rw[EY];simp[NV,NU,NT,NR,l1,l2,l3,l4]);exact ax.of (by rw[aiu];simp[hq])
theorem Ff:ev (UH (.rows []) (.rows []) (.rows []) (.rows []))=some (0,[.rows []]):=by
 obtain⟨l,h1,h2⟩:=Mq ⟨⟨[],[],[]⟩,[]⟩ (by simp[Pg.aw,bU]);have l1:ev (yT (iv 0) (iv 0) (.rows []) (.rows []) (.rows []) (.rows []) (.rows []))=some (0,[.rows [],.rows [],.rows [],.rows [],nS]):=ax.of (by rw[IW];simp);have l2:ev (yS (iv 0) (iv 0) (.rows []) (.rows []) (.rows []) (.rows []) (.rows []))=some (0,[.rows [],.rows [],.rows [],.rows [],nS]):=ax.of (by rw[IV];simp);have l3:ev (tX (iv 0) (iv 0) (.rows []) (.rows []) (.rows []) (.rows []) (.rows []))=some (0,[.rows [],.rows [],.rows [],.rows [],nS]):=ax.of (by rw[Bl];simp);have l4:ev (tV (iv 0) (iv 0) (.rows []))=some (0,[nS]):=ax.of (by rw[Bj];simp);have hq:ev (q14 (.rows []) (.rows []) (.rows []) (.rows []))=some (0,[nS]):=ax.of (by rw[EY];simp[NQ,NP,NN,NM,l1,l2,l3,l4]);exact ax.of (by rw[aiu];simp[hq])
theorem ae5(b:ByteArray)(hb:b.size≤1000000):∃(x0 x1 x2 x3 y0 y1 y2 y3:PV) (e w:Int) (l:List Int),ev (q10 (sv b))=some (0,[x0,x1,x2,x3,iv e,iv w])∧ev (UI (sv b))=some (0,[y0,y1,y2,y3,iv e,iv w])∧
  ev (q12 x0 x1 x2 x3 y0 y1 y2 y3)=some (0,[bv true])∧l.length≤1000000∧ev (UH x0 x1 x2 x3)=some (0,[.rows (bP l)])∧ev (UH y0 y1 y2 y3)=some (0,[.rows (bP l)]):=by
 have h1:=RX b hb;have h2:=Yh b;cases ht:jL b with
 |error p=>
  obtain⟨c,p⟩:=p;rw[ht] at h1 h2;exact⟨_,_,_,_,_,_,_,_,_,_,[],h1,h2.2.2,tK,by simp,JM,Ff⟩
 |ok L=>
  rw[ht] at h1 h2;obtain⟨hz,hl,hW⟩:=wT ht;obtain⟨m0,h2⟩:=h2;have h2:=h2 m0 (Nat.le_refl _);have h1:=h1 m0;have hp:=WB hW m0 0 0 (by decide) (by decide) hW.pos;have hc:=El L m0 ⟨⟨[],[],[]⟩,[]⟩;cases hr:eG L m0 ⟨⟨[],[],[]⟩,[]⟩ 0 0 with
  |out=>rw[hr] at h2;exact h2.elim
  |err e w=>
   rw[hr] at h1 h2;exact⟨_,_,_,_,_,_,_,_,_,_,[],h1,h2.2,tK,by simp,JM,Ff⟩
  |ok v b'=>
   have hw:=(hc 0 0 v b' hr).2;rw[hr] at h1 h2 hp;have hlt:=hp.1;have hz0:Pg.aw ⟨⟨[],[],[]⟩,[]⟩=0:=by simp[Pg.aw,bU]
   rw[hz0] at hw;obtain⟨l,l1,l2⟩:=Mq v (by omega);obtain⟨h3,ok⟩:=h2;obtain⟨⟨k1,k2⟩,⟨k3,k4⟩,⟨k5,k6⟩,⟨k7,k8⟩⟩:=ok;exact⟨_,_,_,_,_,_,_,_,0,0,l,h1,h3,FD v.datas v.classes v.insts v.binds k1 k2 k3 k4 k5 k6 k7 k8,l1,l2,l2⟩
theorem adg(b:ByteArray):ev (q4 (sv b))=some (0,[bv true]):=by
 have ha:ev q6=some (0,[bv true]):=ax.of (by rw[h6];rfl);refine ax.of ?_;rw[h4];by_cases hz:4000<(b.size:Int)
 ·simp[ha,hz]
 ·obtain⟨x0,x1,x2,x3,y0,y1,y2,y3,e,w,l,h1,h2,h3,h4,h5,h6⟩:=ae5 b (by omega)
  have h7:=adp l h4;simp[ha,hz,h1,h2,h3,h5,h6,h7]
end Go.Proofs.YtijcobeebaceoaaGreatDoor
