/- Joined texts. -/
import Derived.Test.YtfphhabaeggenaaDoorBg
import Derived.Test.YtfphhabaeggenaaDoorBp
set_option linter.all false
namespace Go.Proofs.YtfphhabaeggenaaDoor
open Go.RowKit
set_option linter.all false
set_option maxRecDepth 10000
theorem scanP_ne{b:ByteArray}:isNilE (Lx.scanP b)=false:=by
 cases h:Lx.scanP b with
 |error p=>rfl
 |ok ts=>
  cases ts with
  |cons t l=>rfl
  |nil=>
   exfalso
   have h2:scanT b=.ok []:=by unfold scanT;rw[h];rfl
   exact absurd (scanT_ok h2).2.2.pos (by simp)
theorem scan_p(b:ByteArray)(hb:b.size≤1000000):ev (q20 (sv b))=some (0,match scanT b with
  |.ok L=>[tks L,iv 0,iv 0]
  |.error (c,p)=>[nS,iv c,iv (p:Nat)]):=by
 refine Evl.of ?_
 rw[h20]
 have e:scnP [sv b]=some (0,[(scanV (Lx.scanP b)).1,iv (scanV (Lx.scanP b)).2.1,iv (scanV (Lx.scanP b)).2.2]):=by
  show (if b.size≤1000000∧isNilE (Lx.scanP b)=false then _ else none)=_
  rw[if_pos ⟨hb,scanP_ne⟩]
 rw[e]
 unfold scanT
 cases h:Lx.scanP b with
 |error p=>rfl
 |ok ts=>rfl
abbrev zX:List PV:=[iv 0,sv eB,iv 0,iv 0,sv eB,iv 0,nS,nS,nS,nS,iv 0]
def PXr(b:ByteArray)(L:List Tk)(r:Rz Ex):Prop:=match r with
 |.out=>True
 |.ok v e=>ev (q6 (sv b))=some (0,if(tkAt L e).kind=0 then exC v++[iv 0,iv 0] else zX++[iv 110,iv (tkAt L e).at_])
 |.err c w=>ev (q6 (sv b))=some (0,zX++[iv c,iv w])
theorem pexp_bad(b:ByteArray)(hb:b.size≤1000000){c:Int}{p:Nat}(ht:scanT b=.error (c,p)):ev (q6 (sv b))=some (0,zX++[iv c,iv (p:Nat)]):=by
 have hs:=scan_p b hb
 rw[ht] at hs
 have hc:=scanT_bad ht
 have hw:ev (q10a (sv b))=some (0,zX++[iv c,iv (p:Nat)]):=Evl.of (by rw[h10a,g10a];simp[hs,hc])
 exact Evl.of (by rw[h6,g6];simp[hw])
theorem pexp_x(b:ByteArray)(hb:b.size≤1000000){L:List Tk}(ht:scanT b=.ok L)(m:Nat):PXr b L (expG L m 0 0):=by
 have hs:=scan_p b hb
 rw[ht] at hs
 obtain⟨hz,hl,hW⟩:=scanT_ok ht
 have hn:=s_ex hW m 0 0 (by decide) (by decide) hW.pos
 revert hn
 show PE_ L (pEx L 0 0) (expG L m 0 0) _ _→_
 generalize expG L m 0 0=r
 intro hn
 cases r with
 |out=>trivial
 |err e w=>
  obtain⟨z,g,b',d',rfl⟩:=hn
  have g:ev (q11aw (tks L) (iv 0) (iv 0))=_:=g
  have hw:ev (q10a (sv b))=some (0,zX++[iv e,iv w]):=Evl.of (by rw[h10a,g10a];simp[hs,g])
  exact Evl.of (by rw[h6,g6];simp[hw])
 |ok v b'=>
  obtain⟨hb',z,g,hlt,rfl⟩:=hn
  have g:ev (q11aw (tks L) (iv 0) (iv 0))=_:=g
  have hk:=p_kind hW hb' 0 (iv 0)
  show ev (q6 (sv b))=_
  by_cases h0:(tkAt L b').kind=0
  ·rw[if_pos h0] at hk ⊢
   have hw:ev (q10a (sv b))=some (0,exC v++[iv 0,iv 0]):=Evl.of (by rw[h10a,g10a];simp[-Int.natCast_add,hs,g,hk,Tk.cells])
   exact Evl.of (by rw[h6,g6];simp[hw])
  ·rw[if_neg h0] at hk ⊢
   have hw:ev (q10a (sv b))=some (0,zX++[iv 110,iv (tkAt L b').at_]):=Evl.of (by rw[h10a,g10a];simp[-Int.natCast_add,hs,g,hk,Tk.cells])
   exact Evl.of (by rw[h6,g6];simp[hw])
variable{L:List Tk}
abbrev dtC(x:Dt):List PV:=[sv x.name,strs x.params,cns x.cons,strs x.deriv,iv x.at_]
theorem slCn:SlT PG 57 3 48:=SlT.of (by kernel_rfl)
abbrev clC(x:Cl):List PV:=[sv x.name,sv x.var,strs x.supers,mds x.methods,bds x.defaults,iv x.at_]
abbrev itC(x:It):List PV:=[sv x.cls,iv x.head.kind,sv x.head.name,iv x.head.n,tys x.head.kids,pds x.ctx,bds x.binds,iv x.at_]
theorem slMd:SlT PG 61 6 80:=SlT.of (by kernel_rfl)
theorem slPd:SlT PG 65 5 72:=SlT.of (by kernel_rfl)
theorem raw_mds(l:List Md):Raw 6 (l.map Md.cells) (l.map Md.cells):=.of l (fun x=>by simp[Md.cells]) (fun x=>rfl) (fun x=>by simp[Md.cells])
theorem slDt:SlT PG 39 5 96:=SlT.of (by kernel_rfl)
theorem slCl:SlT PG 40 6 112:=SlT.of (by kernel_rfl)
theorem slIt:SlT PG 41 8 128:=SlT.of (by kernel_rfl)
theorem raw_dts(l:List Dt):Raw 5 (l.map Dt.cells) (l.map Dt.cells):=.of l (fun x=>by simp[Dt.cells]) (fun x=>rfl) (fun x=>by simp[Dt.cells])
theorem raw_cls(l:List Cl):Raw 6 (l.map Cl.cells) (l.map Cl.cells):=.of l (fun x=>by simp[Cl.cells]) (fun x=>rfl) (fun x=>by simp[Cl.cells])
theorem raw_its(l:List It):Raw 8 (l.map It.cells) (l.map It.cells):=.of l (fun x=>by simp[It.cells]) (fun x=>rfl) (fun x=>by simp[It.cells])
set_option maxRecDepth 10000
def okU(L:List Tk)(a:Nat)(d:Int)(k:Nat)(v:List ByteArray)(b:Nat)(z:Rs):Prop:=a≤b∧v.length≤b∧z=(k,ps L b d [.rows (v.map fun s=>[sv s])])
section
variable{L:List Tk}(hW:WfL L)
include hW
theorem s_ups:∀(m:Nat) (l:List ByteArray) (a:Nat) (d:Int),a<L.length→l.length≤a→PE_ L (q52ab0b (l.map fun s=>[sv s]) (tks L) (iv a) (iv d)) (upsG L m l d a) (okU L a d 3) (fun e w z=>∃b:Nat,z=(2,ps L b d [iv e,iv w])):=by
 intro m
 induction m with
 |zero=>intro l a d ha hl;rw[upsG];trivial
 |succ m ih=>
  intro l a d ha hl
  refine .of ?_
  rw[upsG.eq_2,h52ab0b,g52ab0b]
  simp[p_skip hW ha]
  refine .may (fun hs=>?_) (fun hs=>?_)
  ·have h1:=isT_fin hW hs
   simp[-Int.natCast_add,hs]
   refine .takeK (by decide) (fun k2=>?_) (fun k2=>?_)
   ·have h2:=hW.fin (a+1) (by omega)
    have hap:=fun k'=>appK_raw (P:=PG) (d:=.fail) (k:=k') slSt (raw_strs l) (c:=[sv (tkAt L (a+1)).text]) rfl (by simp) (by have:=hW.len;simp;omega) (by decide)
    have hn:=ih (l++[(tkAt L (a+1)).text]) (a+1+1) d h2 (by simp;omega)
    rw[List.map_append,List.map_cons,List.map_nil] at hn
    simp[-Int.natCast_add,p_kind hW h1,k2,Tk.cells]
    simp only[hap]
    cases hr:upsG L m (l++[(tkAt L (a+1)).text]) d (a+1+1) with
    |out=>trivial
    |err e x=>rw[hr] at hn;obtain⟨z,g1,b,rfl⟩:=hn;exact⟨_,by simp[-Int.natCast_add,g1],b,rfl⟩
    |ok v b=>rw[hr] at hn;obtain⟨hb,z,g1,h5,h6,rfl⟩:=hn;exact⟨hb,_,by simp[-Int.natCast_add,g1],by omega,h6,rfl⟩
   ·exact⟨_,by simp[-Int.natCast_add,p_kind hW h1,k2],a+1,rfl⟩
  ·exact .pure ha (by simp[hs]) ⟨Nat.le_refl _,hl,rfl⟩
theorem s_upsA(m:Nat)(x:ByteArray)(a:Nat)(d:Int)(ha:a<L.length)(hl:1≤a):PE_ L (q52ab0a [[sv x]] (tks L) (iv a) (iv d)) (upsG L m [x] d a)
  (fun v b z=>v=[x]∧okU L a d 1 v b z∨okU L a d 3 v b z) (fun e w z=>∃b:Nat,z=(0,ps L b d [iv e,iv w,.rows [[sv x]]])∨z=(2,ps L b d [iv e,iv w])):=by
 cases m with
 |zero=>rw[upsG];trivial
 |succ m=>
  refine .of ?_
  rw[upsG.eq_2,h52ab0a,g52ab0a]
  simp[p_skip hW ha]
  refine .may (fun hs=>?_) (fun hs=>?_)
  ·have h1:=isT_fin hW hs
   simp[-Int.natCast_add,hs]
   refine .takeK (by decide) (fun k2=>?_) (fun k2=>?_)
   ·have h2:=hW.fin (a+1) (by omega)
    have hap:=fun k'=>appK_raw (P:=PG) (d:=.fail) (k:=k') slSt (raw_strs [x]) (c:=[sv (tkAt L (a+1)).text]) rfl (by simp) (by simp) (by decide)
    have hn:=s_ups hW m ([x]++[(tkAt L (a+1)).text]) (a+1+1) d h2 (by simp)
    rw[List.map_append,List.map_cons,List.map_nil,List.map_cons,List.map_nil] at hn
    simp only[List.map_cons,List.map_nil] at hap
    simp[-Int.natCast_add,p_kind hW h1,k2,Tk.cells]
    simp only[hap]
    simp only[List.cons_append,List.nil_append] at hn ⊢
    cases hr:upsG L m [x,(tkAt L (a+1)).text] d (a+1+1) with
    |out=>trivial
    |err e x=>rw[hr] at hn;obtain⟨z,g1,b,rfl⟩:=hn;exact⟨_,by simp[-Int.natCast_add,g1],b,.inr rfl⟩
    |ok v b=>rw[hr] at hn;obtain⟨hb,z,g1,h5,h6,rfl⟩:=hn;exact⟨hb,_,by simp[-Int.natCast_add,g1],.inr ⟨by omega,h6,rfl⟩⟩
   ·exact⟨_,by simp[-Int.natCast_add,p_kind hW h1,k2],a+1,.inl rfl⟩
  ·exact .pure ha (by simp[hs]) (.inl ⟨rfl,Nat.le_refl _,by simpa using hl,rfl⟩)
theorem s_upper(m:Nat)(a:Nat)(d:Int)(ha:a<L.length):PE_ L (q52a (tks L) (iv a) (iv d)) (uppersG L m d a)
  (fun v b z=>a<b∧v.length≤b∧z=(0,ps L b d [.rows (v.map fun s=>[sv s])])) (fun e w z=>∃b:Nat,z=(1,ps L b d [iv e,iv w])):=by
 refine .of ?_
 unfold uppersG
 rw[h52a,g52a]
 refine .takeK (by decide) (fun k2=>?_) (fun k2=>?_)
 ·have h1:=hW.fin a (by omega)
  simp[-Int.natCast_add,p_kind hW ha,k2,Tk.cells]
  have hn:=s_upsA hW m (tkAt L a).text (a+1) d h1 (by omega)
  cases hr:upsG L m [(tkAt L a).text] d (a+1) with
  |out=>trivial
  |err e x=>
   rw[hr] at hn
   obtain⟨z,g1,b,rfl|rfl⟩:=hn
   ·exact⟨_,by simp[-Int.natCast_add,g1],b,rfl⟩
   ·exact⟨_,by simp[-Int.natCast_add,g1],b,rfl⟩
  |ok v b=>
   rw[hr] at hn
   obtain⟨hb,z,g1,⟨rfl,h5,h6,rfl⟩|⟨h5,h6,rfl⟩⟩:=hn
   ·simp only[List.map_cons,List.map_nil] at g1
    exact⟨hb,_,by simp[-Int.natCast_add,g1],by omega,h6,rfl⟩
   ·exact⟨hb,_,by simp[-Int.natCast_add,g1],by omega,h6,rfl⟩
 ·exact⟨_,by simp[p_kind hW ha,k2],a,rfl⟩
omit hW in
theorem upper_w{a b:Nat}{d:Int}{v:List ByteArray}(h:ev (q52a (tks L) (iv a) (iv d))=some (0,ps L b d [.rows (v.map fun s=>[sv s])])):ev (q52aw (tks L) (iv a) (iv d))=some (0,ps L b d [.rows (v.map fun s=>[sv s])]):=Evl.of (by
 have:wdP (strs v)=strs v:=by simp
 rw[strs] at this
 have hk:nth 0 [0,1] 0=0:=rfl
 rw[h52aw ev,h,weakM_some,hk]
 simp[this])
omit hW in
theorem upper_we{a b:Nat}{d e w:Int}(h:ev (q52a (tks L) (iv a) (iv d))=some (1,ps L b d [iv e,iv w])):ev (q52aw (tks L) (iv a) (iv d))=some (1,ps L b d [iv e,iv w]):=Evl.of (by
 have hk:nth 0 [0,1] 1=1:=rfl
 rw[h52aw ev,h,weakM_some,hk])
theorem s_pars(nm:ByteArray)(at_:Int):∀(m:Nat) (l:List ByteArray) (a:Nat) (d:Int),a<L.length→l.length≤a→PE_ L (q32ab0b (tks L) (iv a) (iv d) (sv nm) (l.map fun s=>[sv s]) (iv at_)) (parsG L m l d a)
  (fun v b z=>a≤b∧v.length≤b∧z=(1,ps L b d [sv nm,.rows (v.map fun s=>[sv s]),nS,nS,iv at_,sv eB,nS,nS,nS,iv 0])) (fun e w z=>False):=by
 intro m
 induction m with
 |zero=>intro l a d ha hl;rw[parsG];trivial
 |succ m ih=>
  intro l a d ha hl
  refine .of ?_
  rw[parsG.eq_2,h32ab0b,g32ab0b]
  refine .kind (fun k1=>?_) (fun k1=>?_)
  ·refine .takeK (by decide) (fun _=>?_) (fun h=>absurd k1 h)
   have h2:=hW.fin a (by omega)
   have hap:=fun k'=>appK_raw (P:=PG) (d:=.fail) (k:=k') slSt (raw_strs l) (c:=[sv (tkAt L a).text]) rfl (by simp) (by have:=hW.len;simp;omega) (by decide)
   have hn:=ih (l++[(tkAt L a).text]) (a+1) d h2 (by simp;omega)
   rw[List.map_append,List.map_cons,List.map_nil] at hn
   simp[-Int.natCast_add,p_next ha,Tk.cells,eq_true k1,p_any hW ha]
   simp only[hap]
   cases hr:parsG L m (l++[(tkAt L a).text]) d (a+1) with
   |out=>trivial
   |err e x=>rw[hr] at hn;obtain⟨z,g1,hf⟩:=hn;exact hf.elim
   |ok v b=>rw[hr] at hn;obtain⟨hb,z,g1,h5,h6,rfl⟩:=hn;exact⟨hb,_,by simp[-Int.natCast_add,g1],by omega,h6,rfl⟩
  ·exact .pure ha (by simp[p_next ha,Tk.cells,k1]) ⟨Nat.le_refl _,hl,rfl⟩
theorem s_parsA(nm:ByteArray)(at_:Int)(m:Nat)(a:Nat)(d:Int)(ha:a<L.length):PE_ L (q32ab0a (tks L) (iv a) (iv d) (sv nm) (iv at_)) (parsG L m [] d a)
  (fun v b z=>a≤b∧v.length≤b∧(v=[]∧z=(0,ps L b d [sv nm,nS,nS,nS,iv at_,sv eB,nS,nS,nS,iv 0])∨z=(1,ps L b d [sv nm,.rows (v.map fun s=>[sv s]),nS,nS,iv at_,sv eB,nS,nS,nS,iv 0]))) (fun e w z=>False):=by
 cases m with
 |zero=>rw[parsG];trivial
 |succ m=>
  refine .of ?_
  rw[parsG.eq_2,h32ab0a,g32ab0a]
  refine .kind (fun k1=>?_) (fun k1=>?_)
  ·refine .takeK (by decide) (fun _=>?_) (fun h=>absurd k1 h)
   have h2:=hW.fin a (by omega)
   have hn:=s_pars hW nm at_ m [(tkAt L a).text] (a+1) d h2 (by simp)
   rw[List.map_cons,List.map_nil] at hn
   simp[-Int.natCast_add,p_next ha,Tk.cells,eq_true k1,p_any hW ha]
   cases hr:parsG L m [(tkAt L a).text] d (a+1) with
   |out=>trivial
   |err e x=>rw[hr] at hn;obtain⟨z,g1,hf⟩:=hn;exact hf.elim
   |ok v b=>rw[hr] at hn;obtain⟨hb,z,g1,h5,h6,rfl⟩:=hn;exact⟨hb,_,by simp[-Int.natCast_add,g1],by omega,h6,.inr rfl⟩
  ·exact .pure ha (by simp[p_next ha,Tk.cells,k1]) ⟨Nat.le_refl _,by simp,.inl ⟨rfl,rfl⟩⟩
end
set_option maxRecDepth 10000
abbrev tz(da:Int):List PV:=[nS,iv da,sv eB,nS,nS,nS,iv 0]
theorem Cn.raw{x:Cn}{X:PV}(h:X=nS∧x.args=[]∨X=.rows (x.args.map Ty.cells)):wdPs [sv x.name,X,iv x.at_]=x.cells∧NSL [sv x.name,X,iv x.at_]:=by
 rcases h with⟨rfl,h⟩|rfl
 ·exact⟨by simp[Cn.cells,h],by simp⟩
 ·have hw:wdP (tys x.args)=tys x.args:=by simp
  have hn:NS (tys x.args):=by simp
  rw[tys] at hw hn
  exact⟨by simp[Cn.cells,hw,tys],by simp[hn]⟩
theorem wd_ss(l:List ByteArray):wdP (.rows (l.map fun s=>[sv s]))=.rows (l.map fun s=>[sv s]):=by
 have:wdP (strs l)=strs l:=by simp
 rw[strs] at this;exact this
def fl(b:Bool)(p:PV):PV:=if b=true then p else nS
@[simp] theorem fl_t(p:PV):fl true p=p:=rfl
@[simp] theorem fl_f(p:PV):fl false p=nS:=rfl
@[simp] def kz:Bool→Bool→Nat→Nat→Nat
 |false,false,h,l=>2*h+l
 |false,true,h,l=>4*h+2+l
 |true,false,h,l=>4*h+l
 |true,true,h,l=>2*h+l
section
variable{L:List Tk}(hW:WfL L)
include hW
section
omit hW
variable(L)(cn:ByteArray)(ca:Int)(dn:ByteArray)(da:Int)(PP CC:List (List PV))(a:Nat)(d:Int)
def qA3(l:List (List PV)):Bool→Bool→Q
 |false,false=>q32ab4e (tks L) (iv a) (iv d) (sv cn) l (iv ca) (sv dn) (iv da)
 |false,true=>q32ab4g (tks L) (iv a) (iv d) (sv cn) l (iv ca) (sv dn) CC (iv da)
 |true,false=>q32ab4f (tks L) (iv a) (iv d) (sv cn) l (iv ca) (sv dn) PP (iv da)
 |true,true=>q32ab4h (tks L) (iv a) (iv d) (sv cn) l (iv ca) (sv dn) PP CC (iv da)
def qA2:Bool→Bool→Q
 |false,false=>q32ab4a (tks L) (iv a) (iv d) (sv cn) (iv ca) (sv dn) (iv da)
 |false,true=>q32ab4c (tks L) (iv a) (iv d) (sv cn) (iv ca) (sv dn) CC (iv da)
 |true,false=>q32ab4b (tks L) (iv a) (iv d) (sv cn) (iv ca) (sv dn) PP (iv da)
 |true,true=>q32ab4d (tks L) (iv a) (iv d) (sv cn) (iv ca) (sv dn) PP CC (iv da)
def qK3:Bool→Q
 |false=>q32ab2c (tks L) (iv a) (iv d) (sv dn) CC (iv da)
 |true=>q32ab2d (tks L) (iv a) (iv d) (sv dn) PP CC (iv da)
def qK2:Bool→Q
 |false=>q32ab2a (tks L) (iv a) (iv d) (sv dn) (iv da)
 |true=>q32ab2b (tks L) (iv a) (iv d) (sv dn) PP (iv da)
end
theorem s_dargs(PP CC:List (List PV))(p c:Bool)(cn:ByteArray)(ca:Int)(dn:ByteArray)(da:Int):∀(m:Nat) (l:List Ty) (a:Nat) (d:Int),0≤d→d≤300→a<L.length→l.length≤a→PE_ L (qA3 L cn ca dn da PP CC a d (l.map Ty.cells) p c) (tyargsG L m l d a)
  (fun v b z=>a≤b∧v.length≤b∧z=(kz p c 1 1,ps L b d (sv cn :: .rows (v.map Ty.cells)::iv ca::sv dn::fl p (.rows PP)::fl c (.rows CC)::tz da))) (fun e w z=>∃(b:Nat) (d':Int) (T:PV),z=(kz p c 1 0,ps L b d' (sv cn::T::iv ca::sv dn::fl p (.rows PP)::fl c (.rows CC)::(tz da++[iv e,iv w])))):=by
 intro m
 induction m with
 |zero=>intro l a d h0 h1 ha hl;unfold tyargsG;rw[argsF];trivial
 |succ m ih=>
  intro l a d h0 h1 ha hl
  refine .of ?_
  rw[argsF_g]
  cases p<;>cases c
  all_goals
   (first|rw[qA3,h32ab4e,g32ab4e]|rw[qA3,h32ab4g,g32ab4g]|rw[qA3,h32ab4f,g32ab4f]|rw[qA3,h32ab4h,g32ab4h])
   simp[p_starts hW ha]
   refine .st (fun hs=>?_) (fun hs=>?_)
   ·simp[hs]
    refine .callW (s_at hW m a d h0 h1 ha) (fun v b hb hab g=>?_) (fun e w b d' g=>?_)
    ·simp[g]
     have hap:=fun k'=>appK_raw (P:=PG) (d:=.fail) (k:=k') slTy (raw_tys l) (c:=tyC v) rfl (by simp) (by have:=hW.len;simp;omega) (by decide)
     simp[hap]
     have hn:=ih (l++[v]) b d h0 h1 hb (by simp;omega)
     rw[List.map_append,List.map_cons,List.map_nil,Ty.cells_eq v] at hn
     try simp only[qA3,fl_t,fl_f] at hn
     cases hr:tyargsG L m (l++[v]) d b with
     |out=>trivial
     |err e w=>rw[hr] at hn;obtain⟨z,g1,b2,d',T,rfl⟩:=hn;exact⟨_,by simp[g1],b2,d',T,rfl⟩
     |ok v2 b2=>rw[hr] at hn;obtain⟨hb2,z,g1,h5,h6,rfl⟩:=hn;exact⟨hb2,_,by simp[g1],by omega,h6,rfl⟩
    ·exact⟨_,by simp[g],b,d',.rows (l.map Ty.cells),rfl⟩
   ·exact .pure ha (by simp[hs]) ⟨Nat.le_refl _,hl,rfl⟩
theorem s_dargsA(PP CC:List (List PV))(p c:Bool)(cn:ByteArray)(ca:Int)(dn:ByteArray)(da:Int)(m:Nat)(a:Nat)(d:Int)(h0:0≤d)(h1:d≤300)(ha:a<L.length):PE_ L (qA2 L cn ca dn da PP CC a d p c) (tyargsG L m [] d a)
  (fun v b z=>a≤b∧(v=[]∧z=(kz p c 0 1,ps L b d (sv cn::nS::iv ca::sv dn::fl p (.rows PP)::fl c (.rows CC)::tz da))∨v.length≤b∧z=(kz p c 1 1,ps L b d (sv cn :: .rows (v.map Ty.cells)::iv ca::sv dn::fl p (.rows PP)::fl c (.rows CC)::tz da))))
  (fun e w z=>∃(b:Nat) (d':Int),z=(kz p c 0 0,ps L b d' (sv cn::nS::iv ca::sv dn::fl p (.rows PP)::fl c (.rows CC)::(tz da++[iv e,iv w])))∨∃T,z=(kz p c 1 0,ps L b d' (sv cn::T::iv ca::sv dn::fl p (.rows PP)::fl c (.rows CC)::(tz da++[iv e,iv w])))):=by
 cases m with
 |zero=>unfold tyargsG;rw[argsF];trivial
 |succ m=>
  refine .of ?_
  rw[argsF_g]
  have hZ:=s_dargs hW PP CC p c cn ca dn da m
  cases p<;>cases c
  all_goals
   simp only[qA3,fl_t,fl_f,kz] at hZ
   (first|rw[qA2,h32ab4a,g32ab4a]|rw[qA2,h32ab4c,g32ab4c]|rw[qA2,h32ab4b,g32ab4b]|rw[qA2,h32ab4d,g32ab4d])
   simp[p_starts hW ha]
   refine .st (fun hs=>?_) (fun hs=>?_)
   ·simp[hs]
    refine .callW (s_at hW m a d h0 h1 ha) (fun v b hb hab g=>?_) (fun e w b d' g=>?_)
    ·simp[g]
     have hn:=hZ [v] b d h0 h1 hb (by simp;omega)
     rw[List.map_cons,List.map_nil,Ty.cells_eq v] at hn
     try simp only[qA3,fl_t,fl_f] at hn
     cases hr:tyargsG L m [v] d b with
     |out=>trivial
     |err e w=>rw[hr] at hn;obtain⟨z,g1,b2,d',T,rfl⟩:=hn;exact⟨_,by simp[g1],b2,d',.inr ⟨T,rfl⟩⟩
     |ok v2 b2=>rw[hr] at hn;obtain⟨hb2,z,g1,h5,h6,rfl⟩:=hn;exact⟨hb2,_,by simp[g1],by omega,.inr ⟨h6,rfl⟩⟩
    ·exact⟨_,by simp[g],b,d',.inl rfl⟩
   ·exact .pure ha (by simp[hs]) ⟨Nat.le_refl _,.inl ⟨rfl,rfl⟩⟩
theorem s_cons(PP:List (List PV))(p:Bool)(dn:ByteArray)(da:Int):∀(m:Nat) (l:List Cn) (CC:List (List PV)) (a:Nat) (d:Int),Raw 3 CC (l.map Cn.cells)→l.length≤a→0≤d→d≤300→a<L.length→PE_ L (qK3 L dn da PP CC a d p) (consG L m l d a)
  (fun v b z=>a≤b∧∃B',Raw 3 B' (v.map Cn.cells)∧z=(0,ps L b d (sv dn::fl p (.rows PP) :: .rows B'::tz da))) (fun e w z=>∃(b:Nat) (d':Int) (T:PV),z=(2,ps L b d' (sv dn::fl p (.rows PP)::T::(tz da++[iv e,iv w])))):=by
 intro m
 induction m with
 |zero=>intro l CC a d hr hl h0 h1 ha;rw[consG];trivial
 |succ m ih=>
  intro l CC a d hr hl h0 h1 ha
  refine .of ?_
  rw[consG.eq_2]
  have hA:=s_dargsA hW PP CC p true (tkAt L a).text (tkAt L a).at_ dn da m
  cases p
  all_goals
   simp only[qA2,fl_t,fl_f,kz] at hA
   (first|rw[qK3,h32ab2c,g32ab2c]|rw[qK3,h32ab2d,g32ab2d])
   have hLl:=hW.len
   refine .takeK (by decide) (fun k2=>?_) (fun k2=>?_)
   ·have hl1:=hW.fin a (by omega)
    simp[-Int.natCast_add,p_kind hW ha,k2,Tk.cells]
    refine .bind (hA (a+1) d h0 h1 hl1) (fun tl b z hb g hz=>?_) (fun e w z g hz=>?_)
    ·obtain⟨hab,hz⟩:=hz
     have key:∀(X:PV),(X=nS∧tl=[]∨X=.rows (tl.map Ty.cells))→Raw 3 (CC++[[sv (tkAt L a).text,X,iv (tkAt L a).at_]]) ((l++[(⟨(tkAt L a).text,tl,(tkAt L a).at_⟩:Cn)]).map Cn.cells):=fun X hX=>by
      have hx:=Cn.raw (x:=⟨(tkAt L a).text,tl,(tkAt L a).at_⟩) hX
      rw[List.map_append,List.map_cons,List.map_nil]
      exact hr.app hx.1 rfl hx.2
     rcases hz with⟨rfl,rfl⟩|⟨h5,rfl⟩
     ·have hk:=key nS (.inl ⟨rfl,rfl⟩)
      simp[-Int.natCast_add,g]
      have hap:=fun k'=>appK_raw (P:=PG) (d:=.fail) (k:=k') slCn hr (c:=[sv (tkAt L a).text,nS,iv (tkAt L a).at_]) rfl (Cn.raw (x:=⟨(tkAt L a).text,[],(tkAt L a).at_⟩) (.inl ⟨rfl,rfl⟩)).2 (by have:=hr.len;simp at this;omega) (by decide)
      simp only[hap]
      simp[-Int.natCast_add,p_skip hW hb]
      refine .may (fun hs=>?_) (fun hs=>?_)
      ·have hl2:=isT_fin hW hs
       simp[-Int.natCast_add,hs]
       have hn:=ih _ _ (b+1) d hk (by simp;omega) h0 h1 hl2
       simp only[List.cons_append,List.nil_append,qK3,fl_t,fl_f] at hn
       have hn:=hn
       cases hr2:consG L m (l++[(⟨(tkAt L a).text,[],(tkAt L a).at_⟩:Cn)]) d (b+1) with
       |out=>trivial
       |err e w=>rw[hr2] at hn;obtain⟨z,g1,b2,d',T,rfl⟩:=hn;exact⟨_,by simp[-Int.natCast_add,g1],b2,d',T,rfl⟩
       |ok v2 b2=>rw[hr2] at hn;obtain⟨hb2,z,g1,h6,B',h7,rfl⟩:=hn;exact⟨hb2,_,by simp[-Int.natCast_add,g1],by omega,B',h7,rfl⟩
      ·exact .pure hb (by simp[hs]) ⟨by omega,_,hk,rfl⟩
     ·have hk:=key (.rows (tl.map Ty.cells)) (.inr rfl)
      simp[-Int.natCast_add,g]
      have hap:=fun k'=>appK_raw (P:=PG) (d:=.fail) (k:=k') slCn hr (c:=[sv (tkAt L a).text,(.rows (tl.map Ty.cells)),iv (tkAt L a).at_]) rfl (Cn.raw (x:=⟨(tkAt L a).text,tl,(tkAt L a).at_⟩) (.inr rfl)).2 (by have:=hr.len;simp at this;omega) (by decide)
      simp only[hap]
      simp[-Int.natCast_add,p_skip hW hb]
      refine .may (fun hs=>?_) (fun hs=>?_)
      ·have hl2:=isT_fin hW hs
       simp[-Int.natCast_add,hs]
       have hn:=ih _ _ (b+1) d hk (by simp;omega) h0 h1 hl2
       simp only[List.cons_append,List.nil_append,qK3,fl_t,fl_f] at hn
       have hn:=hn
       cases hr2:consG L m (l++[(⟨(tkAt L a).text,tl,(tkAt L a).at_⟩:Cn)]) d (b+1) with
       |out=>trivial
       |err e w=>rw[hr2] at hn;obtain⟨z,g1,b2,d',T,rfl⟩:=hn;exact⟨_,by simp[-Int.natCast_add,g1],b2,d',T,rfl⟩
       |ok v2 b2=>rw[hr2] at hn;obtain⟨hb2,z,g1,h6,B',h7,rfl⟩:=hn;exact⟨hb2,_,by simp[-Int.natCast_add,g1],by omega,B',h7,rfl⟩
      ·exact .pure hb (by simp[hs]) ⟨by omega,_,hk,rfl⟩
    ·obtain⟨b,d',rfl|⟨T,rfl⟩⟩:=hz
     ·exact⟨_,by simp[-Int.natCast_add,g],b,d',.rows CC,rfl⟩
     ·exact⟨_,by simp[-Int.natCast_add,g],b,d',.rows CC,rfl⟩
   ·exact⟨_,by simp[p_kind hW ha,k2],a,d,.rows CC,rfl⟩
theorem s_consA(PP:List (List PV))(p:Bool)(dn:ByteArray)(da:Int)(m:Nat)(a:Nat)(d:Int)(h0:0≤d)(h1:d≤300)(ha:a<L.length):PE_ L (qK2 L dn da PP a d p) (consG L m [] d a)
  (fun v b z=>a≤b∧∃B',Raw 3 B' (v.map Cn.cells)∧z=(0,ps L b d (sv dn::fl p (.rows PP) :: .rows B'::tz da))) (fun e w z=>∃(b:Nat) (d':Int),z=(1,ps L b d' (sv dn::fl p (.rows PP)::nS::(tz da++[iv e,iv w])))∨∃(T:PV),z=(2,ps L b d' (sv dn::fl p (.rows PP)::T::(tz da++[iv e,iv w])))):=by
 cases m with
 |zero=>rw[consG];trivial
 |succ m=>
  refine .of ?_
  rw[consG.eq_2]
  have hA:=s_dargsA hW PP [] p false (tkAt L a).text (tkAt L a).at_ dn da m
  have hC:=s_cons hW PP p dn da m
  cases p
  all_goals
   simp only[qK3,fl_t,fl_f] at hC
   simp only[qA2,fl_t,fl_f,kz] at hA
   (first|rw[qK2,h32ab2a,g32ab2a]|rw[qK2,h32ab2b,g32ab2b])
   have hLl:=hW.len
   refine .takeK (by decide) (fun k2=>?_) (fun k2=>?_)
   ·have hl1:=hW.fin a (by omega)
    simp[-Int.natCast_add,p_kind hW ha,k2,Tk.cells]
    refine .bind (hA (a+1) d h0 h1 hl1) (fun tl b z hb g hz=>?_) (fun e w z g hz=>?_)
    ·obtain⟨hab,hz⟩:=hz
     have key:∀(X:PV),(X=nS∧tl=[]∨X=.rows (tl.map Ty.cells))→Raw 3 ([]++[[sv (tkAt L a).text,X,iv (tkAt L a).at_]]) (([]++[(⟨(tkAt L a).text,tl,(tkAt L a).at_⟩:Cn)]).map Cn.cells):=fun X hX=>by
      have hx:=Cn.raw (x:=⟨(tkAt L a).text,tl,(tkAt L a).at_⟩) hX
      rw[List.map_append,List.map_cons,List.map_nil]
      exact(Raw.nil 3).app hx.1 rfl hx.2
     rcases hz with⟨rfl,rfl⟩|⟨h5,rfl⟩
     ·have hk:=key nS (.inl ⟨rfl,rfl⟩)
      simp[-Int.natCast_add,g]
      simp[-Int.natCast_add,p_skip hW hb]
      refine .may (fun hs=>?_) (fun hs=>?_)
      ·have hl2:=isT_fin hW hs
       simp[-Int.natCast_add,hs]
       have hn:=hC _ _ (b+1) d hk (by simp) h0 h1 hl2
       simp only[List.cons_append,List.nil_append,qK3,fl_t,fl_f] at hn
       cases hr2:consG L m ([(⟨(tkAt L a).text,[],(tkAt L a).at_⟩:Cn)]) d (b+1) with
       |out=>trivial
       |err e w=>rw[hr2] at hn;obtain⟨z,g1,b2,d',T,rfl⟩:=hn;exact⟨_,by simp[-Int.natCast_add,g1],b2,d',.inr ⟨T,rfl⟩⟩
       |ok v2 b2=>rw[hr2] at hn;obtain⟨hb2,z,g1,h6,B',h7,rfl⟩:=hn;exact⟨hb2,_,by simp[-Int.natCast_add,g1],by omega,B',h7,rfl⟩
      ·exact .pure hb (by simp[hs]) ⟨by omega,_,hk,rfl⟩
     ·have hk:=key (.rows (tl.map Ty.cells)) (.inr rfl)
      simp[-Int.natCast_add,g]
      simp[-Int.natCast_add,p_skip hW hb]
      refine .may (fun hs=>?_) (fun hs=>?_)
      ·have hl2:=isT_fin hW hs
       simp[-Int.natCast_add,hs]
       have hn:=hC _ _ (b+1) d hk (by simp) h0 h1 hl2
       simp only[List.cons_append,List.nil_append,qK3,fl_t,fl_f] at hn
       cases hr2:consG L m ([(⟨(tkAt L a).text,tl,(tkAt L a).at_⟩:Cn)]) d (b+1) with
       |out=>trivial
       |err e w=>rw[hr2] at hn;obtain⟨z,g1,b2,d',T,rfl⟩:=hn;exact⟨_,by simp[-Int.natCast_add,g1],b2,d',.inr ⟨T,rfl⟩⟩
       |ok v2 b2=>rw[hr2] at hn;obtain⟨hb2,z,g1,h6,B',h7,rfl⟩:=hn;exact⟨hb2,_,by simp[-Int.natCast_add,g1],by omega,B',h7,rfl⟩
      ·exact .pure hb (by simp[hs]) ⟨by omega,_,hk,rfl⟩
    ·obtain⟨b,d',rfl|⟨T,rfl⟩⟩:=hz
     ·exact⟨_,by simp[-Int.natCast_add,g],b,d',.inl rfl⟩
     ·exact⟨_,by simp[-Int.natCast_add,g],b,d',.inl rfl⟩
   ·exact⟨_,by simp[p_kind hW ha,k2],a,d,.inl rfl⟩
abbrev pDt(L:List Tk)(a:Nat)(d:Int):Q:=q32aw (tks L) (iv a) (iv d)
theorem s_data(m:Nat):Pa L (pDt L) dtC (dataG L m):=by
 intro a d h0 h1 ha
 refine .weak (h32aw ev _ _ _) (.of ?_)
 unfold dataG
 rw[h32a,g32a]
 refine .takeK (by decide) (fun k2=>?_) (fun k2=>?_)
 ·have hl1:=hW.fin a (by omega)
  simp[-Int.natCast_add,p_kind hW ha,k2,Tk.cells]
  refine .bind (s_parsA hW (tkAt L a).text (tkAt L a).at_ m (a+1) d hl1) (fun ps b z hb g hz=>?_) (fun e w z g hz=>hz.elim)
  obtain⟨hab,hlp,hz⟩:=hz
  rcases hz with⟨rfl,rfl⟩|rfl
  ·simp[-Int.natCast_add,g]
   refine .take (by decide) (fun he=>?_) (fun he=>?_)
   ·have hl2:=isT_fin hW he
    simp[-Int.natCast_add,p_want hW hb,he,Tk.cells]
    refine .bind (s_consA hW [] false (tkAt L a).text (tkAt L a).at_ m (b+1) d h0 h1 hl2) (fun cs b2 z hb2 g2 hz=>?_) (fun e w z g2 hz=>?_)
    all_goals simp only[qK2] at g2
    ·obtain⟨hab2,B,hB,rfl⟩:=hz
     simp[-Int.natCast_add,g2]
     simp[-Int.natCast_add,p_skip hW hb2]
     refine .may (fun hv=>?_) (fun hv=>?_)
     ·have hl3:=isT_fin hW hv
      simp[-Int.natCast_add,hv]
      refine .take (by decide) (fun ho=>?_) (fun ho=>?_)
      ·have hl4:=isT_fin hW ho
       simp[-Int.natCast_add,p_want hW hl3,ho,Tk.cells]
       refine .bind (s_upper hW m (b2+1+1) d hl4) (fun ds b3 z hb3 g3 hz=>?_) (fun e w z g3 hz=>?_)
       ·obtain⟨hab3,hl5,rfl⟩:=hz
        have gw:=upper_w g3
        simp[-Int.natCast_add,g3,gw]
        refine .take (by decide) (fun hc=>?_) (fun hc=>?_)
        ·exact .pure (isT_fin hW hc) (by simp[-Int.natCast_add,p_want hW hb3,hc,Tk.cells]) (.of (m:=[0,1,0,0,0,0,0,0,0]) (k:=4) (ys:=[sv (tkAt L a).text,nS,.rows B,.rows (ds.map fun s=>[sv s]),iv (tkAt L a).at_]) (by omega) rfl (by simp[hB.wd,wd_ss,strs,cns]))
        ·exact⟨_,by simp[-Int.natCast_add,p_want hW hb3,hc],.of (m:=[0,1,0,0,0,0,0,0,0]) (b:=b3) (d:=d) (k:=1) rfl⟩
       ·obtain⟨b3,rfl⟩:=hz
        have gw:=upper_we g3
        exact⟨_,by simp[-Int.natCast_add,g3,gw],.of (m:=[0,1,0,0,0,0,0,0,0]) (b:=b3) (d:=d) (k:=1) rfl⟩
      ·exact⟨_,by simp[-Int.natCast_add,p_want hW hl3,ho],.of (m:=[0,1,0,0,0,0,0,0,0]) (b:=b2+1) (d:=d) (k:=1) rfl⟩
     ·exact .pure hb2 (by simp[-Int.natCast_add,hv]) (.of (m:=[0,1,0,0,0,0,0,0,0]) (k:=3) (ys:=[sv (tkAt L a).text,nS,.rows B,nS,iv (tkAt L a).at_]) (by omega) rfl (by simp[hB.wd,wd_ss,strs,cns]))
    ·obtain⟨b2,d',rfl|⟨T,rfl⟩⟩:=hz
     ·exact⟨_,by simp[-Int.natCast_add,g2],.of (m:=[0,1,0,0,0,0,0,0,0]) (b:=b2) (d:=d') (k:=1) rfl⟩
     ·exact⟨_,by simp[-Int.natCast_add,g2],.of (m:=[0,1,0,0,0,0,0,0,0]) (b:=b2) (d:=d') (k:=1) rfl⟩
   ·exact⟨_,by simp[-Int.natCast_add,p_want hW hb,he],.of (m:=[0,1,0,0,0,0,0,0,0]) (b:=b) (d:=d) (k:=1) rfl⟩
  ·simp[-Int.natCast_add,g]
   refine .take (by decide) (fun he=>?_) (fun he=>?_)
   ·have hl2:=isT_fin hW he
    simp[-Int.natCast_add,p_want hW hb,he,Tk.cells]
    refine .bind (s_consA hW (ps.map fun s=>[sv s]) true (tkAt L a).text (tkAt L a).at_ m (b+1) d h0 h1 hl2) (fun cs b2 z hb2 g2 hz=>?_) (fun e w z g2 hz=>?_)
    all_goals simp only[qK2] at g2
    ·obtain⟨hab2,B,hB,rfl⟩:=hz
     simp[-Int.natCast_add,g2]
     simp[-Int.natCast_add,p_skip hW hb2]
     refine .may (fun hv=>?_) (fun hv=>?_)
     ·have hl3:=isT_fin hW hv
      simp[-Int.natCast_add,hv]
      refine .take (by decide) (fun ho=>?_) (fun ho=>?_)
      ·have hl4:=isT_fin hW ho
       simp[-Int.natCast_add,p_want hW hl3,ho,Tk.cells]
       refine .bind (s_upper hW m (b2+1+1) d hl4) (fun ds b3 z hb3 g3 hz=>?_) (fun e w z g3 hz=>?_)
       ·obtain⟨hab3,hl5,rfl⟩:=hz
        have gw:=upper_w g3
        simp[-Int.natCast_add,g3,gw]
        refine .take (by decide) (fun hc=>?_) (fun hc=>?_)
        ·exact .pure (isT_fin hW hc) (by simp[-Int.natCast_add,p_want hW hb3,hc,Tk.cells]) (.of (m:=[0,1,0,0,0,0,0,0,0]) (k:=8) (ys:=[sv (tkAt L a).text,(.rows (ps.map fun s=>[sv s])),.rows B,.rows (ds.map fun s=>[sv s]),iv (tkAt L a).at_]) (by omega) rfl (by simp[hB.wd,wd_ss,strs,cns]))
        ·exact⟨_,by simp[-Int.natCast_add,p_want hW hb3,hc],.of (m:=[0,1,0,0,0,0,0,0,0]) (b:=b3) (d:=d) (k:=1) rfl⟩
       ·obtain⟨b3,rfl⟩:=hz
        have gw:=upper_we g3
        exact⟨_,by simp[-Int.natCast_add,g3,gw],.of (m:=[0,1,0,0,0,0,0,0,0]) (b:=b3) (d:=d) (k:=1) rfl⟩
      ·exact⟨_,by simp[-Int.natCast_add,p_want hW hl3,ho],.of (m:=[0,1,0,0,0,0,0,0,0]) (b:=b2+1) (d:=d) (k:=1) rfl⟩
     ·exact .pure hb2 (by simp[-Int.natCast_add,hv]) (.of (m:=[0,1,0,0,0,0,0,0,0]) (k:=7) (ys:=[sv (tkAt L a).text,(.rows (ps.map fun s=>[sv s])),.rows B,nS,iv (tkAt L a).at_]) (by omega) rfl (by simp[hB.wd,wd_ss,strs,cns]))
    ·obtain⟨b2,d',rfl|⟨T,rfl⟩⟩:=hz
     ·exact⟨_,by simp[-Int.natCast_add,g2],.of (m:=[0,1,0,0,0,0,0,0,0]) (b:=b2) (d:=d') (k:=1) rfl⟩
     ·exact⟨_,by simp[-Int.natCast_add,g2],.of (m:=[0,1,0,0,0,0,0,0,0]) (b:=b2) (d:=d') (k:=1) rfl⟩
   ·exact⟨_,by simp[-Int.natCast_add,p_want hW hb,he],.of (m:=[0,1,0,0,0,0,0,0,0]) (b:=b) (d:=d) (k:=1) rfl⟩
 ·exact⟨_,by simp[p_kind hW ha,k2],.of (m:=[0,1,0,0,0,0,0,0,0]) (b:=a) (d:=d) (k:=1) rfl⟩
end
set_option maxRecDepth 10000
abbrev cz(da:Int):List PV:=[iv da,sv eB,sv eB,nS,nS,nS,iv 0]
def okM:Bool→Bool→Nat
 |false,false=>0
 |false,true=>4
 |true,false=>6
 |true,true=>7
def erM:Bool→Bool→Nat
 |false,false=>2
 |false,true=>1
 |true,false=>3
 |true,true=>5
@[simp] theorem okM_ff:okM false false=0:=rfl
@[simp] theorem okM_ft:okM false true=4:=rfl
@[simp] theorem okM_tf:okM true false=6:=rfl
@[simp] theorem okM_tt:okM true true=7:=rfl
@[simp] theorem erM_ff:erM false false=2:=rfl
@[simp] theorem erM_ft:erM false true=1:=rfl
@[simp] theorem erM_tf:erM true false=3:=rfl
@[simp] theorem erM_tt:erM true true=5:=rfl
theorem wd_ms(l:List Md):wdP (.rows (l.map Md.cells))=.rows (l.map Md.cells):=by
 have:wdP (mds l)=mds l:=by simp
 rw[mds] at this;exact this
theorem wd_bs(l:List Bd):wdP (.rows (l.map Bd.cells))=.rows (l.map Bd.cells):=by
 have:wdP (bds l)=bds l:=by simp
 rw[bds] at this;exact this
def okI(L:List Tk)(nm vr:ByteArray)(at_:Int)(SC:PV)(a:Nat)(d:Int)(v:List Md×List Bd)(b:Nat)(z:Rs):Prop:=a≤b∧∃bm bd:Bool,(bm=false→v.1=[])∧(bd=false→v.2=[])∧z=(okM bm bd,ps L b d (sv nm::sv vr::SC::fl bm (.rows (v.1.map Md.cells))::fl bd (.rows (v.2.map Bd.cells))::cz at_))
def erI(L:List Tk)(nm vr:ByteArray)(at_:Int)(SC:PV)(e w:Int)(z:Rs):Prop:=∃(b:Nat) (d':Int) (bm bd:Bool) (T U:PV),z=(erM bm bd,ps L b d' (sv nm::sv vr::SC::fl bm T::fl bd U::(cz at_++[iv e,iv w])))
section
variable{L:List Tk}(hW:WfL L)
include hW
omit hW in
def qItm(L:List Tk)(a:Nat)(d:Int)(nm vr:ByteArray)(at_:Int)(SS:List (List PV)):Bool→Bool→Bool→List Md→List Bd→Q
 |false,false,false,_,_=>q33ab0a (tks L) (iv a) (iv d) (sv nm) (sv vr) (iv at_)
 |false,false,true,_,ds=>q33ab0c (tks L) (iv a) (iv d) (sv nm) (sv vr) (ds.map Bd.cells) (iv at_)
 |false,true,false,ms,_=>q33ab0d (tks L) (iv a) (iv d) (sv nm) (sv vr) (ms.map Md.cells) (iv at_)
 |false,true,true,ms,ds=>q33ab0g (tks L) (iv a) (iv d) (sv nm) (sv vr) (ms.map Md.cells) (ds.map Bd.cells) (iv at_)
 |true,false,false,_,_=>q33ab0b (tks L) (iv a) (iv d) (sv nm) (sv vr) SS (iv at_)
 |true,false,true,_,ds=>q33ab0e (tks L) (iv a) (iv d) (sv nm) (sv vr) SS (ds.map Bd.cells) (iv at_)
 |true,true,false,ms,_=>q33ab0f (tks L) (iv a) (iv d) (sv nm) (sv vr) SS (ms.map Md.cells) (iv at_)
 |true,true,true,ms,ds=>q33ab0h (tks L) (iv a) (iv d) (sv nm) (sv vr) SS (ms.map Md.cells) (ds.map Bd.cells) (iv at_)
theorem s_items(nm vr:ByteArray)(at_:Int)(SS:List (List PV))(sb:Bool):∀(m:Nat) (bm bd:Bool) (ms:List Md) (ds:List Bd) (a:Nat) (d:Int),(bm=false→ms=[])→(bd=false→ds=[])→ms.length+ds.length≤a→0≤d→d≤300→a<L.length→PE_ L (qItm L a d nm vr at_ SS sb bm bd ms ds) (itemsG L m ms ds d a)
  (okI L nm vr at_ (fl sb (.rows SS)) a d) (erI L nm vr at_ (fl sb (.rows SS))):=by
 intro m
 induction m with
 |zero=>intro bm bd ms ds a d h1 h2 hl h0 h3 ha;rw[itemsG];trivial
 |succ m ih=>
  intro bm bd ms ds a d hm hd0 hl h0 h1 ha
  have hLl:=hW.len
  have jB:=fun(v:Bd) (b:Nat) (hab:a<b) (hb:b<L.length)=>ih bm true ms (ds++[v]) b d hm (fun h=>by cases h) (by simp only[List.length_append,List.length_cons,List.length_nil];omega) h0 h1 hb
  have jM:=fun(v:Md) (b:Nat) (hab:a<b) (hb:b<L.length)=>ih true bd (ms++[v]) ds b d (fun h=>by cases h) hd0 (by simp only[List.length_append,List.length_cons,List.length_nil];omega) h0 h1 hb
  have kO:∀b,a≤b→okI L nm vr at_ (fl sb (.rows SS)) a d (ms,ds) b (okM bm bd,ps L b d (sv nm::sv vr::fl sb (.rows SS)::fl bm (.rows (ms.map Md.cells))::fl bd (.rows (ds.map Bd.cells))::cz at_)):=fun b hb=>⟨hb,bm,bd,hm,hd0,rfl⟩
  have kE:=fun(b:Nat) (d' e w:Int)=>(⟨b,d',bm,bd,.rows (ms.map Md.cells),.rows (ds.map Bd.cells),rfl⟩:erI L nm vr at_ (fl sb (.rows SS)) e w (erM bm bd,ps L b d' (sv nm::sv vr::fl sb (.rows SS)::fl bm (.rows (ms.map Md.cells))::fl bd (.rows (ds.map Bd.cells))::(cz at_++[iv e,iv w]))))
  have kB:=fun(v:Bd) (b:Nat) (d' e w:Int)=>(⟨b,d',bm,true,.rows (ms.map Md.cells),.rows (ds.map Bd.cells++[bdC v]),rfl⟩:erI L nm vr at_ (fl sb (.rows SS)) e w (erM bm true,ps L b d' (sv nm::sv vr::fl sb (.rows SS)::fl bm (.rows (ms.map Md.cells))::fl true (.rows (ds.map Bd.cells++[bdC v]))::(cz at_++[iv e,iv w]))))
  have kM:=fun(c:List PV) (b:Nat) (d' e w:Int)=>(⟨b,d',true,bd,.rows (ms.map Md.cells++[c]),.rows (ds.map Bd.cells),rfl⟩:erI L nm vr at_ (fl sb (.rows SS)) e w (erM true bd,ps L b d' (sv nm::sv vr::fl sb (.rows SS)::fl true (.rows (ms.map Md.cells++[c]))::fl bd (.rows (ds.map Bd.cells))::(cz at_++[iv e,iv w]))))
  have aB:=fun(v:Bd) k'=>appK_raw (P:=PG) (d:=.fail) (k:=k') slBd (raw_bds ds) (c:=bdC v) rfl (by simp) (by simp;omega) (by decide)
  have aM:=fun(t:Tk) (v:Ty) k'=>appK_raw (P:=PG) (d:=.fail) (k:=k') slMd (raw_mds ms) (c:=[sv t.text,iv v.kind,sv v.name,iv v.n,tys v.kids,iv t.at_]) rfl (by simp) (by simp;omega) (by decide)
  refine .of ?_
  cases sb<;>cases bm<;>cases bd
  all_goals
   (first|(obtain rfl:=hm rfl)|skip)
   (first|(obtain rfl:=hd0 rfl)|skip)
   simp only[qItm,List.map_append,List.map_cons,List.map_nil,List.nil_append,Md.cells,Bd.cells_eq,fl_t,fl_f,ps,List.cons_append] at jB jM kO kE kB kM aB aM
   rw[itemsG.eq_2]
   (first
    |rw[qItm,h33ab0a,g33ab0a]
    |rw[qItm,h33ab0c,g33ab0c]
    |rw[qItm,h33ab0d,g33ab0d]
    |rw[qItm,h33ab0g,g33ab0g]
    |rw[qItm,h33ab0b,g33ab0b]
    |rw[qItm,h33ab0e,g33ab0e]
    |rw[qItm,h33ab0f,g33ab0f]
    |rw[qItm,h33ab0h,g33ab0h]
    )
   simp[-Int.natCast_add,p_skip hW ha]
   refine .may (fun he=>?_) (fun he=>?_)
   ·exact .pure (isT_fin hW he) (by simp[-Int.natCast_add,he]) (kO _ (by omega))
   ·simp[-Int.natCast_add,he]
    simp[-Int.natCast_add,p_skip hW ha]
    refine .may (fun hd=>?_) (fun hd=>?_)
    ·have hl1:=isT_fin hW hd
     simp[-Int.natCast_add,hd]
     refine .callW (s_bd hW m (a+1) d h0 h1 hl1) (fun v b hb hab g=>?_) (fun e w b d' g=>?_)
     ·simp[-Int.natCast_add,g]
      (first|simp only[aB v]|skip)
      refine .take (by decide) (fun hs=>?_) (fun hs=>?_)
      ·have hl2:=isT_fin hW hs
       simp[-Int.natCast_add,p_want hW hb,hs,Tk.cells]
       have hn:=jB v (b+1) (by omega) hl2
       revert hn
       generalize itemsG L m _ _ d (b+1)=r
       intro hn
       cases r with
       |out=>trivial
       |err e w=>obtain⟨z,g1,hz⟩:=hn;exact⟨z,by obtain⟨_,_⟩:=z;simp[-Int.natCast_add,g1],hz⟩
       |ok v2 b2=>obtain⟨hb2,z,g1,h5,hz⟩:=hn;exact⟨hb2,z,by obtain⟨_,_⟩:=z;simp[-Int.natCast_add,g1],by omega,hz⟩
      ·exact⟨_,by simp[-Int.natCast_add,p_want hW hb,hs],kB v b d _ _⟩
     ·exact⟨_,by simp[-Int.natCast_add,g],kE b d' _ _⟩
    ·simp[-Int.natCast_add,hd]
     refine .bind (s_name hW a d ha) (fun t b z hb g hz=>?_) (fun e w z g hz=>?_)
     ·obtain⟨hab,rfl⟩:=hz
      simp[-Int.natCast_add,g,Tk.cells]
      refine .take (by decide) (fun hc=>?_) (fun hc=>?_)
      ·have hl3:=isT_fin hW hc
       simp[-Int.natCast_add,p_want hW hb,hc,Tk.cells]
       refine .callW (s_ty hW m (b+1) d h0 h1 hl3) (fun v b3 hb3 hab3 g3=>?_) (fun e w b3 d' g3=>?_)
       ·simp[-Int.natCast_add,g3]
        (first|simp only[aM t v]|skip)
        refine .take (by decide) (fun hs=>?_) (fun hs=>?_)
        ·have hl2:=isT_fin hW hs
         simp[-Int.natCast_add,p_want hW hb3,hs,Tk.cells]
         have hn:=jM (⟨t.text,v,t.at_⟩:Md) (b3+1) (by omega) hl2
         revert hn
         generalize itemsG L m _ _ d (b3+1)=r
         intro hn
         cases r with
         |out=>trivial
         |err e w=>obtain⟨z,g1,hz⟩:=hn;exact⟨z,by obtain⟨_,_⟩:=z;simp[-Int.natCast_add,g1],hz⟩
         |ok v2 b2=>obtain⟨hb2,z,g1,h5,hz⟩:=hn;exact⟨hb2,z,by obtain⟨_,_⟩:=z;simp[-Int.natCast_add,g1],by omega,hz⟩
        ·exact⟨_,by simp[-Int.natCast_add,p_want hW hb3,hs],kM [sv t.text,iv v.kind,sv v.name,iv v.n,tys v.kids,iv t.at_] b3 d _ _⟩
       ·exact⟨_,by simp[-Int.natCast_add,g3],kE b3 d' _ _⟩
      ·exact⟨_,by simp[-Int.natCast_add,p_want hW hb,hc],kE b d _ _⟩
     ·obtain⟨b,rfl⟩:=hz
      exact⟨_,by simp[-Int.natCast_add,g],kE b d _ _⟩
abbrev pCl(L:List Tk)(a:Nat)(d:Int):Q:=q33aw (tks L) (iv a) (iv d)
theorem s_class(m:Nat):Pa L (pCl L) clC (classG L m):=by
 intro a d h0 h1 ha
 refine .weak (h33aw ev _ _ _) (.of ?_)
 unfold classG
 rw[h33a,g33a]
 refine .takeK (by decide) (fun k2=>?_) (fun k2=>?_)
 ·have hl1:=hW.fin a (by omega)
  simp[-Int.natCast_add,p_kind hW ha,k2,Tk.cells]
  refine .takeK (by decide) (fun k1=>?_) (fun k1=>?_)
  ·have hl2:=hW.fin (a+1) (by omega)
   simp[-Int.natCast_add,p_kind hW hl1,k1,Tk.cells]
   simp[-Int.natCast_add,p_skip hW hl2]
   unfold fromG
   cases hf:isT L sFrom (a+1+1) with
   |false=>
    simp[-Int.natCast_add,hf]
    have e0:bindG (mayG L sFrom (uppersG L m) (pureG [])) (fun sup=>bindG (takeG L 6 sWhere) fun _=>bindG (itemsG L m [] []) fun r=>pureG (⟨(tkAt L a).text,(tkAt L (a+1)).text,sup,r.1,r.2,(tkAt L a).at_⟩:Cl)) d (a+1+1)=bindG (takeG L 6 sWhere) (fun _=>bindG (itemsG L m [] []) fun r=>pureG (⟨(tkAt L a).text,(tkAt L (a+1)).text,[],r.1,r.2,(tkAt L a).at_⟩:Cl)) d (a+1+1):=by
     conv=>lhs;unfold bindG mayG
     rw[hf];rfl
    rw[e0]
    refine .take (by decide) (fun hw=>?_) (fun hw=>?_)
    ·have hl4:=isT_fin hW hw
     simp[-Int.natCast_add,p_want hW hl2,hw,Tk.cells]
     have hn:=s_items hW (tkAt L a).text (tkAt L (a+1)).text (tkAt L a).at_ [] false m false false [] [] ((a+1+1)+1) d (fun _=>rfl) (fun _=>rfl) (by simp) h0 h1 hl4
     refine .bind hn (fun r b z hb g hz=>?_) (fun e w z g hz=>?_)
     ·obtain⟨hab,bm,bd,hx,hy,rfl⟩:=hz
      unfold qItm at g
      cases bm<;>cases bd
      ·exact .pure hb (by simp[-Int.natCast_add,g]) (.of (m:=[0,0,0,0,1,0,0,0,0]) (k:=0) (ys:=[sv (tkAt L a).text,sv (tkAt L (a+1)).text,nS,nS,nS,iv (tkAt L a).at_]) (by omega) rfl (by simp[hx rfl,hy rfl,wd_ss,wd_ms,wd_bs,strs,mds,bds]))
      ·exact .pure hb (by simp[-Int.natCast_add,g]) (.of (m:=[0,0,0,0,1,0,0,0,0]) (k:=1) (ys:=[sv (tkAt L a).text,sv (tkAt L (a+1)).text,nS,nS,.rows (r.2.map Bd.cells),iv (tkAt L a).at_]) (by omega) rfl (by simp[hx rfl,wd_ss,wd_ms,wd_bs,strs,mds,bds]))
      ·exact .pure hb (by simp[-Int.natCast_add,g]) (.of (m:=[0,0,0,0,1,0,0,0,0]) (k:=2) (ys:=[sv (tkAt L a).text,sv (tkAt L (a+1)).text,nS,.rows (r.1.map Md.cells),nS,iv (tkAt L a).at_]) (by omega) rfl (by simp[hy rfl,wd_ss,wd_ms,wd_bs,strs,mds,bds]))
      ·exact .pure hb (by simp[-Int.natCast_add,g]) (.of (m:=[0,0,0,0,1,0,0,0,0]) (k:=3) (ys:=[sv (tkAt L a).text,sv (tkAt L (a+1)).text,nS,.rows (r.1.map Md.cells),.rows (r.2.map Bd.cells),iv (tkAt L a).at_]) (by omega) rfl (by simp[wd_ss,wd_ms,wd_bs,strs,mds,bds]))
     ·obtain⟨b,d',bm,bd,T,U,rfl⟩:=hz
      unfold qItm at g
      cases bm<;>cases bd
      all_goals exact⟨_,by simp[-Int.natCast_add,g],.of (m:=[0,0,0,0,1,0,0,0,0]) (b:=b) (d:=d') (k:=4) rfl⟩
    ·exact⟨_,by simp[-Int.natCast_add,p_want hW hl2,hw],.of (m:=[0,0,0,0,1,0,0,0,0]) (b:=(a+1+1)) (d:=d) (k:=4) rfl⟩
   |true=>
    have hl3:=isT_fin hW hf
    simp[-Int.natCast_add,hf]
    have e0:bindG (mayG L sFrom (uppersG L m) (pureG [])) (fun sup=>bindG (takeG L 6 sWhere) fun _=>bindG (itemsG L m [] []) fun r=>pureG (⟨(tkAt L a).text,(tkAt L (a+1)).text,sup,r.1,r.2,(tkAt L a).at_⟩:Cl)) d (a+1+1)=bindG (uppersG L m) (fun sup=>bindG (takeG L 6 sWhere) fun _=>bindG (itemsG L m [] []) fun r=>pureG (⟨(tkAt L a).text,(tkAt L (a+1)).text,sup,r.1,r.2,(tkAt L a).at_⟩:Cl)) d (a+1+1+1):=by
     conv=>lhs;unfold bindG mayG
     rw[hf];rfl
    rw[e0]
    refine .bind (s_upper hW m (a+1+1+1) d hl3) (fun sup b3 z hb3 g3 hz=>?_) (fun e w z g3 hz=>?_)
    ·obtain⟨hab3,hl5,rfl⟩:=hz
     have gw:=upper_w g3
     simp[-Int.natCast_add,g3,gw]
     refine .take (by decide) (fun hw=>?_) (fun hw=>?_)
     ·have hl4:=isT_fin hW hw
      simp[-Int.natCast_add,p_want hW hb3,hw,Tk.cells]
      have hn:=s_items hW (tkAt L a).text (tkAt L (a+1)).text (tkAt L a).at_ (sup.map fun s=>[sv s]) true m false false [] [] (b3+1) d (fun _=>rfl) (fun _=>rfl) (by simp) h0 h1 hl4
      refine .bind hn (fun r b z hb g hz=>?_) (fun e w z g hz=>?_)
      ·obtain⟨hab,bm,bd,hx,hy,rfl⟩:=hz
       unfold qItm at g
       cases bm<;>cases bd
       ·exact .pure hb (by simp[-Int.natCast_add,g]) (.of (m:=[0,0,0,0,1,0,0,0,0]) (k:=5) (ys:=[sv (tkAt L a).text,sv (tkAt L (a+1)).text,(.rows (sup.map fun s=>[sv s])),nS,nS,iv (tkAt L a).at_]) (by omega) rfl (by simp[hx rfl,hy rfl,wd_ss,wd_ms,wd_bs,strs,mds,bds]))
       ·exact .pure hb (by simp[-Int.natCast_add,g]) (.of (m:=[0,0,0,0,1,0,0,0,0]) (k:=6) (ys:=[sv (tkAt L a).text,sv (tkAt L (a+1)).text,(.rows (sup.map fun s=>[sv s])),nS,.rows (r.2.map Bd.cells),iv (tkAt L a).at_]) (by omega) rfl (by simp[hx rfl,wd_ss,wd_ms,wd_bs,strs,mds,bds]))
       ·exact .pure hb (by simp[-Int.natCast_add,g]) (.of (m:=[0,0,0,0,1,0,0,0,0]) (k:=7) (ys:=[sv (tkAt L a).text,sv (tkAt L (a+1)).text,(.rows (sup.map fun s=>[sv s])),.rows (r.1.map Md.cells),nS,iv (tkAt L a).at_]) (by omega) rfl (by simp[hy rfl,wd_ss,wd_ms,wd_bs,strs,mds,bds]))
       ·exact .pure hb (by simp[-Int.natCast_add,g]) (.of (m:=[0,0,0,0,1,0,0,0,0]) (k:=8) (ys:=[sv (tkAt L a).text,sv (tkAt L (a+1)).text,(.rows (sup.map fun s=>[sv s])),.rows (r.1.map Md.cells),.rows (r.2.map Bd.cells),iv (tkAt L a).at_]) (by omega) rfl (by simp[wd_ss,wd_ms,wd_bs,strs,mds,bds]))
      ·obtain⟨b,d',bm,bd,T,U,rfl⟩:=hz
       unfold qItm at g
       cases bm<;>cases bd
       all_goals exact⟨_,by simp[-Int.natCast_add,g],.of (m:=[0,0,0,0,1,0,0,0,0]) (b:=b) (d:=d') (k:=4) rfl⟩
     ·exact⟨_,by simp[-Int.natCast_add,p_want hW hb3,hw],.of (m:=[0,0,0,0,1,0,0,0,0]) (b:=b3) (d:=d) (k:=4) rfl⟩
    ·obtain⟨b3,rfl⟩:=hz
     have gw:=upper_we g3
     exact⟨_,by simp[-Int.natCast_add,g3,gw],.of (m:=[0,0,0,0,1,0,0,0,0]) (b:=b3) (d:=d) (k:=4) rfl⟩
  ·exact⟨_,by simp[-Int.natCast_add,p_kind hW hl1,k1],.of (m:=[0,0,0,0,1,0,0,0,0]) (b:=a+1) (d:=d) (k:=4) rfl⟩
 ·exact⟨_,by simp[p_kind hW ha,k2],.of (m:=[0,0,0,0,1,0,0,0,0]) (b:=a) (d:=d) (k:=4) rfl⟩
end
set_option maxRecDepth 10000
abbrev iz(da:Int):List PV:=[iv da,sv eB,iv 0,sv eB,iv 0,nS,nS,nS,iv 0]
def pdM(c v:ByteArray):Pd:=⟨c,.mk 1 v 0 []⟩
theorem pdM_raw(c v:ByteArray):wdPs [sv c,iv 1,sv v,iv 0,nS]=(pdM c v).cells∧NSL [sv c,iv 1,sv v,iv 0,nS]:=⟨by simp[Pd.cells,pdM,tys],by simp⟩
abbrev ih5(nm:ByteArray)(h:Ty):List PV:=[sv nm,iv h.kind,sv h.name,iv h.n,tys h.kids]
section
variable{L:List Tk}(hW:WfL L)
include hW
theorem s_ctx(nm:ByteArray)(h:Ty)(at_:Int):∀(m:Nat) (l:List Pd) (CC:List (List PV)) (a:Nat) (d:Int),Raw 5 CC (l.map Pd.cells)→l.length≤a→0≤d→d≤300→a<L.length→PE_ L (q34ab0b (tks L) (iv a) (iv d) (sv nm) (iv h.kind) (sv h.name) (iv h.n) (tys h.kids) CC (iv at_)) (ctxG L m l d a)
  (fun v b z=>a≤b∧∃B',Raw 5 B' (v.map Pd.cells)∧z=(0,ps L b d (ih5 nm h ++ .rows B'::nS::iz at_))) (fun e w z=>∃(b:Nat) (T:PV),z=(2,ps L b d (ih5 nm h++T::nS::(iz at_++[iv e,iv w])))):=by
 intro m
 induction m with
 |zero=>intro l CC a d hr hl h0 h1 ha;rw[ctxG];trivial
 |succ m ih=>
  intro l CC a d hr hl h0 h1 ha
  refine .of ?_
  rw[ctxG.eq_2,h34ab0b,g34ab0b]
  have hLl:=hW.len
  refine .takeK (by decide) (fun k2=>?_) (fun k2=>?_)
  ·have hl1:=hW.fin a (by omega)
   simp[-Int.natCast_add,p_kind hW ha,k2,Tk.cells]
   refine .takeK (by decide) (fun k1=>?_) (fun k1=>?_)
   ·have hl2:=hW.fin (a+1) (by omega)
    have hx:=pdM_raw (tkAt L a).text (tkAt L (a+1)).text
    have hk:Raw 5 (CC++[[sv (tkAt L a).text,iv 1,sv (tkAt L (a+1)).text,iv 0,nS]]) ((l++[pdM (tkAt L a).text (tkAt L (a+1)).text]).map Pd.cells):=by
     rw[List.map_append,List.map_cons,List.map_nil]
     exact hr.app hx.1 rfl hx.2
    simp[-Int.natCast_add,p_kind hW hl1,k1,Tk.cells]
    have hap:=fun k'=>appK_raw (P:=PG) (d:=.fail) (k:=k') slPd hr (c:=[sv (tkAt L a).text,iv 1,sv (tkAt L (a+1)).text,iv 0,nS]) rfl hx.2 (by have:=hr.len;simp at this;omega) (by decide)
    simp only[hap]
    simp[-Int.natCast_add,p_skip hW hl2]
    refine .may (fun hs=>?_) (fun hs=>?_)
    ·have hl3:=isT_fin hW hs
     simp[-Int.natCast_add,hs]
     have hn:=ih _ _ (a+1+1+1) d hk (by simp;omega) h0 h1 hl3
     simp only[List.cons_append,List.nil_append] at hn
     cases hr2:ctxG L m (l++[pdM (tkAt L a).text (tkAt L (a+1)).text]) d (a+1+1+1) with
     |out=>have hr2:=hr2;unfold pdM at hr2;rw[hr2];trivial
     |err e w=>rw[hr2] at hn;unfold pdM at hr2;rw[hr2];obtain⟨z,g1,b2,T,rfl⟩:=hn;exact⟨_,by simp[-Int.natCast_add,g1],b2,T,rfl⟩
     |ok v2 b2=>rw[hr2] at hn;unfold pdM at hr2;rw[hr2];obtain⟨hb2,z,g1,h6,B',h7,rfl⟩:=hn;exact⟨hb2,_,by simp[-Int.natCast_add,g1],by omega,B',h7,rfl⟩
    ·exact .pure hl2 (by simp[-Int.natCast_add,hs]) ⟨by omega,_,hk,rfl⟩
   ·exact⟨_,by simp[-Int.natCast_add,p_kind hW hl1,k1],a+1,.rows CC,rfl⟩
  ·exact⟨_,by simp[p_kind hW ha,k2],a,.rows CC,rfl⟩
theorem s_ctxA(nm:ByteArray)(h:Ty)(at_:Int)(m:Nat)(a:Nat)(d:Int)(h0:0≤d)(h1:d≤300)(ha:a<L.length):PE_ L (q34ab0a (tks L) (iv a) (iv d) (sv nm) (iv h.kind) (sv h.name) (iv h.n) (tys h.kids) (iv at_)) (ctxG L m [] d a)
  (fun v b z=>a≤b∧∃B',Raw 5 B' (v.map Pd.cells)∧z=(0,ps L b d (ih5 nm h ++ .rows B'::nS::iz at_))) (fun e w z=>∃(b:Nat),z=(1,ps L b d (ih5 nm h++nS::nS::(iz at_++[iv e,iv w])))∨∃(T:PV),z=(2,ps L b d (ih5 nm h++T::nS::(iz at_++[iv e,iv w])))):=by
 cases m with
 |zero=>rw[ctxG];trivial
 |succ m=>
  refine .of ?_
  rw[ctxG.eq_2,h34ab0a,g34ab0a]
  have hLl:=hW.len
  refine .takeK (by decide) (fun k2=>?_) (fun k2=>?_)
  ·have hl1:=hW.fin a (by omega)
   simp[-Int.natCast_add,p_kind hW ha,k2,Tk.cells]
   refine .takeK (by decide) (fun k1=>?_) (fun k1=>?_)
   ·have hl2:=hW.fin (a+1) (by omega)
    have hx:=pdM_raw (tkAt L a).text (tkAt L (a+1)).text
    have hk:Raw 5 ([]++[[sv (tkAt L a).text,iv 1,sv (tkAt L (a+1)).text,iv 0,nS]]) (([]++[pdM (tkAt L a).text (tkAt L (a+1)).text]).map Pd.cells):=by
     rw[List.map_append,List.map_cons,List.map_nil]
     exact(Raw.nil 5).app hx.1 rfl hx.2
    simp[-Int.natCast_add,p_kind hW hl1,k1,Tk.cells]
    simp[-Int.natCast_add,p_skip hW hl2]
    refine .may (fun hs=>?_) (fun hs=>?_)
    ·have hl3:=isT_fin hW hs
     simp[-Int.natCast_add,hs]
     have hn:=s_ctx hW nm h at_ m _ _ (a+1+1+1) d hk (by simp) h0 h1 hl3
     simp only[List.cons_append,List.nil_append] at hn
     cases hr2:ctxG L m [pdM (tkAt L a).text (tkAt L (a+1)).text] d (a+1+1+1) with
     |out=>have hr2:=hr2;unfold pdM at hr2;rw[hr2];trivial
     |err e w=>rw[hr2] at hn;unfold pdM at hr2;rw[hr2];obtain⟨z,g1,b2,T,rfl⟩:=hn;exact⟨_,by simp[-Int.natCast_add,g1],b2,.inr ⟨T,rfl⟩⟩
     |ok v2 b2=>rw[hr2] at hn;unfold pdM at hr2;rw[hr2];obtain⟨hb2,z,g1,h6,B',h7,rfl⟩:=hn;exact⟨hb2,_,by simp[-Int.natCast_add,g1],by omega,B',h7,rfl⟩
    ·exact .pure hl2 (by simp[-Int.natCast_add,hs]) ⟨by omega,_,hk,rfl⟩
   ·exact⟨_,by simp[-Int.natCast_add,p_kind hW hl1,k1],a+1,.inl rfl⟩
  ·exact⟨_,by simp[p_kind hW ha,k2],a,.inl rfl⟩
section
omit hW
variable(L)(nm:ByteArray)(h:Ty)(at_:Int)(XX:List (List PV))(a:Nat)(d:Int)
def qF3(l:List (List PV)):Bool→Q
 |false=>q34ab2c (tks L) (iv a) (iv d) (sv nm) (iv h.kind) (sv h.name) (iv h.n) (tys h.kids) l (iv at_)
 |true=>q34ab2d (tks L) (iv a) (iv d) (sv nm) (iv h.kind) (sv h.name) (iv h.n) (tys h.kids) XX l (iv at_)
def qF2:Bool→Q
 |false=>q34ab2a (tks L) (iv a) (iv d) (sv nm) (iv h.kind) (sv h.name) (iv h.n) (tys h.kids) (iv at_)
 |true=>q34ab2b (tks L) (iv a) (iv d) (sv nm) (iv h.kind) (sv h.name) (iv h.n) (tys h.kids) XX (iv at_)
end
theorem s_defs(nm:ByteArray)(h:Ty)(at_:Int)(XX:List (List PV))(p:Bool):∀(m:Nat) (l:List Bd) (a:Nat) (d:Int),l.length≤a→0≤d→d≤300→a<L.length→PE_ L (qF3 L nm h at_ XX a d (l.map Bd.cells) p) (defsG L m l d a)
  (fun v b z=>a≤b∧z=(3,ps L b d (ih5 nm h++fl p (.rows XX) :: .rows (v.map Bd.cells)::iz at_))) (fun e w z=>∃(b:Nat) (d':Int) (T:PV),z=(1,ps L b d' (ih5 nm h++fl p (.rows XX)::T::(iz at_++[iv e,iv w])))):=by
 intro m
 induction m with
 |zero=>intro l a d hl h0 h1 ha;rw[defsG];trivial
 |succ m ih=>
  intro l a d hl h0 h1 ha
  refine .of ?_
  rw[defsG.eq_2]
  cases p
  all_goals
   (first|rw[qF3,h34ab2c,g34ab2c]|rw[qF3,h34ab2d,g34ab2d])
   have hLl:=hW.len
   simp[-Int.natCast_add,p_skip hW ha]
   refine .may (fun he=>?_) (fun he=>?_)
   ·exact .pure (isT_fin hW he) (by simp[-Int.natCast_add,he]) ⟨by omega,rfl⟩
   ·simp[-Int.natCast_add,he]
    refine .take (by decide) (fun hd=>?_) (fun hd=>?_)
    ·have hl1:=isT_fin hW hd
     simp[-Int.natCast_add,p_want hW ha,hd,Tk.cells]
     refine .callW (s_bd hW m (a+1) d h0 h1 hl1) (fun v b hb hab g=>?_) (fun e w b d' g=>?_)
     ·simp[-Int.natCast_add,g]
      have hap:=fun k'=>appK_raw (P:=PG) (d:=.fail) (k:=k') slBd (raw_bds l) (c:=bdC v) rfl (by simp) (by simp;omega) (by decide)
      simp only[hap]
      refine .take (by decide) (fun hs=>?_) (fun hs=>?_)
      ·have hl2:=isT_fin hW hs
       simp[-Int.natCast_add,p_want hW hb,hs,Tk.cells]
       have hn:=ih (l++[v]) (b+1) d (by simp;omega) h0 h1 hl2
       simp only[List.map_append,List.map_cons,List.map_nil,Bd.cells_eq,qF3,fl_t,fl_f] at hn
       cases hr:defsG L m (l++[v]) d (b+1) with
       |out=>trivial
       |err e w=>rw[hr] at hn;obtain⟨z,g1,b2,d',hz⟩:=hn;obtain⟨T,rfl⟩:=hz;exact⟨_,by simp[-Int.natCast_add,g1],b2,d',T,rfl⟩
       |ok v2 b2=>rw[hr] at hn;obtain⟨hb2,z,g1,h5,rfl⟩:=hn;exact⟨hb2,_,by simp[-Int.natCast_add,g1],by omega,rfl⟩
      ·exact⟨_,by simp[-Int.natCast_add,p_want hW hb,hs],b,d,.rows (l.map Bd.cells++[bdC v]),rfl⟩
     ·exact⟨_,by simp[-Int.natCast_add,g],b,d',.rows (l.map Bd.cells),rfl⟩
    ·exact⟨_,by simp[-Int.natCast_add,p_want hW ha,hd],a,d,.rows (l.map Bd.cells),rfl⟩
theorem s_defsA(nm:ByteArray)(h:Ty)(at_:Int)(XX:List (List PV))(p:Bool)(m:Nat)(a:Nat)(d:Int)(h0:0≤d)(h1:d≤300)(ha:a<L.length):PE_ L (qF2 L nm h at_ XX a d p) (defsG L m [] d a)
  (fun v b z=>a≤b∧(v=[]∧z=(0,ps L b d (ih5 nm h++fl p (.rows XX)::nS::iz at_))∨z=(3,ps L b d (ih5 nm h++fl p (.rows XX) :: .rows (v.map Bd.cells)::iz at_)))) (fun e w z=>∃(b:Nat) (d':Int),z=(2,ps L b d' (ih5 nm h++fl p (.rows XX)::nS::(iz at_++[iv e,iv w])))∨∃(T:PV),z=(1,ps L b d' (ih5 nm h++fl p (.rows XX)::T::(iz at_++[iv e,iv w])))):=by
 cases m with
 |zero=>rw[defsG];trivial
 |succ m=>
  refine .of ?_
  rw[defsG.eq_2]
  have hZ:=s_defs hW nm h at_ XX p m
  cases p
  all_goals
   simp only[qF3,fl_t,fl_f] at hZ
   (first|rw[qF2,h34ab2a,g34ab2a]|rw[qF2,h34ab2b,g34ab2b])
   have hLl:=hW.len
   simp[-Int.natCast_add,p_skip hW ha]
   refine .may (fun he=>?_) (fun he=>?_)
   ·exact .pure (isT_fin hW he) (by simp[-Int.natCast_add,he]) ⟨by omega,.inl ⟨rfl,rfl⟩⟩
   ·simp[-Int.natCast_add,he]
    refine .take (by decide) (fun hd=>?_) (fun hd=>?_)
    ·have hl1:=isT_fin hW hd
     simp[-Int.natCast_add,p_want hW ha,hd,Tk.cells]
     refine .callW (s_bd hW m (a+1) d h0 h1 hl1) (fun v b hb hab g=>?_) (fun e w b d' g=>?_)
     ·simp[-Int.natCast_add,g]
      refine .take (by decide) (fun hs=>?_) (fun hs=>?_)
      ·have hl2:=isT_fin hW hs
       simp[-Int.natCast_add,p_want hW hb,hs,Tk.cells]
       have hn:=hZ [v] (b+1) d (by simp) h0 h1 hl2
       simp only[List.map_append,List.map_cons,List.map_nil,Bd.cells_eq,qF3,fl_t,fl_f] at hn
       cases hr:defsG L m [v] d (b+1) with
       |out=>trivial
       |err e w=>rw[hr] at hn;obtain⟨z,g1,b2,d',hz⟩:=hn;obtain⟨T,rfl⟩:=hz;exact⟨_,by simp[-Int.natCast_add,g1],b2,d',.inr ⟨T,rfl⟩⟩
       |ok v2 b2=>rw[hr] at hn;obtain⟨hb2,z,g1,h5,rfl⟩:=hn;exact⟨hb2,_,by simp[-Int.natCast_add,g1],by omega,.inr rfl⟩
      ·exact⟨_,by simp[-Int.natCast_add,p_want hW hb,hs],b,d,.inr ⟨.rows [bdC v],rfl⟩⟩
     ·exact⟨_,by simp[-Int.natCast_add,g],b,d',.inl rfl⟩
    ·exact⟨_,by simp[-Int.natCast_add,p_want hW ha,hd],a,d,.inl rfl⟩
abbrev pIt(L:List Tk)(a:Nat)(d:Int):Q:=q34aw (tks L) (iv a) (iv d)
theorem s_inst(m:Nat):Pa L (pIt L) itC (instG L m):=by
 intro a d h0 h1 ha
 refine .weak (h34aw ev _ _ _) (.of ?_)
 unfold instG
 rw[h34a,g34a]
 refine .takeK (by decide) (fun k2=>?_) (fun k2=>?_)
 ·have hl1:=hW.fin a (by omega)
  simp[-Int.natCast_add,p_kind hW ha,k2,Tk.cells]
  refine .callW (s_at hW m (a+1) d h0 h1 hl1) (fun h b hb hab g=>?_) (fun e w b d' g=>?_)
  ·simp[-Int.natCast_add,g]
   simp[-Int.natCast_add,p_skip hW hb]
   cases hf:isT L sFrom b with
   |false=>
    simp[-Int.natCast_add,hf]
    have e0:bindG (mayG L sFrom (ctxG L m []) (pureG [])) (fun c=>bindG (takeG L 6 sWhere) fun _=>bindG (defsG L m []) fun bs=>pureG (⟨(tkAt L a).text,h,c,bs,(tkAt L a).at_⟩:It)) d b=bindG (takeG L 6 sWhere) (fun _=>bindG (defsG L m []) fun bs=>pureG (⟨(tkAt L a).text,h,[],bs,(tkAt L a).at_⟩:It)) d b:=by
     conv=>lhs;unfold bindG mayG
     rw[hf];rfl
    rw[e0]
    refine .take (by decide) (fun hw=>?_) (fun hw=>?_)
    ·have hl4:=isT_fin hW hw
     simp[-Int.natCast_add,p_want hW hb,hw,Tk.cells]
     refine .bind (s_defsA hW (tkAt L a).text h (tkAt L a).at_ [] false m (b+1) d h0 h1 hl4) (fun bs b4 z hb4 g4 hz=>?_) (fun e w z g4 hz=>?_)
     all_goals simp only[qF2] at g4
     ·obtain⟨hab4,⟨rfl,rfl⟩|rfl⟩:=hz
      ·exact .pure hb4 (by simp[-Int.natCast_add,g4]) (.of (m:=[0,0,1,0,0]) (k:=0) (ys:=ih5 (tkAt L a).text h++[nS,nS,iv (tkAt L a).at_]) (by omega) rfl (by simp[pds,bds]))
      ·exact .pure hb4 (by simp[-Int.natCast_add,g4]) (.of (m:=[0,0,1,0,0]) (k:=1) (ys:=ih5 (tkAt L a).text h++[nS,.rows (bs.map Bd.cells),iv (tkAt L a).at_]) (by omega) rfl (by simp[pds,bds,wd_bs,bds]))
     ·obtain⟨b4,d',rfl|⟨T,rfl⟩⟩:=hz
      ·exact⟨_,by simp[-Int.natCast_add,g4],.of (m:=[0,0,1,0,0]) (b:=b4) (d:=d') (k:=2) rfl⟩
      ·exact⟨_,by simp[-Int.natCast_add,g4],.of (m:=[0,0,1,0,0]) (b:=b4) (d:=d') (k:=2) rfl⟩
    ·exact⟨_,by simp[-Int.natCast_add,p_want hW hb,hw],.of (m:=[0,0,1,0,0]) (b:=b) (d:=d) (k:=2) rfl⟩
   |true=>
    have hl3:=isT_fin hW hf
    simp[-Int.natCast_add,hf]
    have e0:bindG (mayG L sFrom (ctxG L m []) (pureG [])) (fun c=>bindG (takeG L 6 sWhere) fun _=>bindG (defsG L m []) fun bs=>pureG (⟨(tkAt L a).text,h,c,bs,(tkAt L a).at_⟩:It)) d b=bindG (ctxG L m []) (fun c=>bindG (takeG L 6 sWhere) fun _=>bindG (defsG L m []) fun bs=>pureG (⟨(tkAt L a).text,h,c,bs,(tkAt L a).at_⟩:It)) d (b+1):=by
     conv=>lhs;unfold bindG mayG
     rw[hf];rfl
    rw[e0]
    refine .bind (s_ctxA hW (tkAt L a).text h (tkAt L a).at_ m (b+1) d h0 h1 hl3) (fun c b3 z hb3 g3 hz=>?_) (fun e w z g3 hz=>?_)
    ·obtain⟨hab3,B,hB,rfl⟩:=hz
     simp[-Int.natCast_add,g3]
     refine .take (by decide) (fun hw=>?_) (fun hw=>?_)
     ·have hl4:=isT_fin hW hw
      simp[-Int.natCast_add,p_want hW hb3,hw,Tk.cells]
      refine .bind (s_defsA hW (tkAt L a).text h (tkAt L a).at_ B true m (b3+1) d h0 h1 hl4) (fun bs b4 z hb4 g4 hz=>?_) (fun e w z g4 hz=>?_)
      all_goals simp only[qF2] at g4
      ·obtain⟨hab4,⟨rfl,rfl⟩|rfl⟩:=hz
       ·exact .pure hb4 (by simp[-Int.natCast_add,g4]) (.of (m:=[0,0,1,0,0]) (k:=3) (ys:=ih5 (tkAt L a).text h++[.rows B,nS,iv (tkAt L a).at_]) (by omega) rfl (by simp[hB.wd,pds]))
       ·exact .pure hb4 (by simp[-Int.natCast_add,g4]) (.of (m:=[0,0,1,0,0]) (k:=4) (ys:=ih5 (tkAt L a).text h++[.rows B,.rows (bs.map Bd.cells),iv (tkAt L a).at_]) (by omega) rfl (by simp[hB.wd,pds,wd_bs,bds]))
      ·obtain⟨b4,d',rfl|⟨T,rfl⟩⟩:=hz
       ·exact⟨_,by simp[-Int.natCast_add,g4],.of (m:=[0,0,1,0,0]) (b:=b4) (d:=d') (k:=2) rfl⟩
       ·exact⟨_,by simp[-Int.natCast_add,g4],.of (m:=[0,0,1,0,0]) (b:=b4) (d:=d') (k:=2) rfl⟩
     ·exact⟨_,by simp[-Int.natCast_add,p_want hW hb3,hw],.of (m:=[0,0,1,0,0]) (b:=b3) (d:=d) (k:=2) rfl⟩
    ·obtain⟨b3,rfl|⟨T,rfl⟩⟩:=hz
     ·exact⟨_,by simp[-Int.natCast_add,g3],.of (m:=[0,0,1,0,0]) (b:=b3) (d:=d) (k:=2) rfl⟩
     ·exact⟨_,by simp[-Int.natCast_add,g3],.of (m:=[0,0,1,0,0]) (b:=b3) (d:=d) (k:=2) rfl⟩
  ·exact⟨_,by simp[-Int.natCast_add,g],.of (m:=[0,0,1,0,0]) (b:=b) (d:=d') (k:=2) rfl⟩
 ·exact⟨_,by simp[p_kind hW ha,k2],.of (m:=[0,0,1,0,0]) (b:=a) (d:=d) (k:=2) rfl⟩
end
set_option maxRecDepth 10000
set_option maxHeartbeats 4000000
def okP:Bool→Bool→Bool→Bool→Nat
 |false,false,false,false=>5
 |false,false,false,true=>15
 |false,false,true,false=>14
 |false,false,true,true=>25
 |false,true,false,false=>12
 |false,true,false,true=>24
 |false,true,true,false=>23
 |false,true,true,true=>30
 |true,false,false,false=>9
 |true,false,false,true=>21
 |true,false,true,false=>20
 |true,false,true,true=>29
 |true,true,false,false=>18
 |true,true,false,true=>28
 |true,true,true,false=>27
 |true,true,true,true=>31
@[simp] theorem okP_n:okP false false false false=5:=rfl
@[simp] theorem okP_B:okP false false false true=15:=rfl
@[simp] theorem okP_I:okP false false true false=14:=rfl
@[simp] theorem okP_IB:okP false false true true=25:=rfl
@[simp] theorem okP_C:okP false true false false=12:=rfl
@[simp] theorem okP_CB:okP false true false true=24:=rfl
@[simp] theorem okP_CI:okP false true true false=23:=rfl
@[simp] theorem okP_CIB:okP false true true true=30:=rfl
@[simp] theorem okP_D:okP true false false false=9:=rfl
@[simp] theorem okP_DB:okP true false false true=21:=rfl
@[simp] theorem okP_DI:okP true false true false=20:=rfl
@[simp] theorem okP_DIB:okP true false true true=29:=rfl
@[simp] theorem okP_DC:okP true true false false=18:=rfl
@[simp] theorem okP_DCB:okP true true false true=28:=rfl
@[simp] theorem okP_DCI:okP true true true false=27:=rfl
@[simp] theorem okP_DCIB:okP true true true true=31:=rfl
def erP:Bool→Bool→Bool→Bool→Nat
 |false,false,false,false=>1
 |false,false,false,true=>4
 |false,false,true,false=>3
 |false,false,true,true=>13
 |false,true,false,false=>2
 |false,true,false,true=>11
 |false,true,true,false=>10
 |false,true,true,true=>22
 |true,false,false,false=>0
 |true,false,false,true=>8
 |true,false,true,false=>7
 |true,false,true,true=>19
 |true,true,false,false=>6
 |true,true,false,true=>17
 |true,true,true,false=>16
 |true,true,true,true=>26
@[simp] theorem erP_n:erP false false false false=1:=rfl
@[simp] theorem erP_B:erP false false false true=4:=rfl
@[simp] theorem erP_I:erP false false true false=3:=rfl
@[simp] theorem erP_IB:erP false false true true=13:=rfl
@[simp] theorem erP_C:erP false true false false=2:=rfl
@[simp] theorem erP_CB:erP false true false true=11:=rfl
@[simp] theorem erP_CI:erP false true true false=10:=rfl
@[simp] theorem erP_CIB:erP false true true true=22:=rfl
@[simp] theorem erP_D:erP true false false false=0:=rfl
@[simp] theorem erP_DB:erP true false false true=8:=rfl
@[simp] theorem erP_DI:erP true false true false=7:=rfl
@[simp] theorem erP_DIB:erP true false true true=19:=rfl
@[simp] theorem erP_DC:erP true true false false=6:=rfl
@[simp] theorem erP_DCB:erP true true false true=17:=rfl
@[simp] theorem erP_DCI:erP true true true false=16:=rfl
@[simp] theorem erP_DCIB:erP true true true true=26:=rfl
def prQ(L:List Tk)(a:Nat)(d:Int):Bool→Bool→Bool→Bool→List Dt→List Cl→List It→List Bd→Q
 |false,false,false,false,_,_,_,_=>q13ab0a (tks L) (iv a) (iv d)
 |false,false,false,true,_,_,_,B=>q13ab0e (tks L) (iv a) (iv d) (B.map Bd.cells)
 |false,false,true,false,_,_,I,_=>q13ab0d (tks L) (iv a) (iv d) (I.map It.cells)
 |false,false,true,true,_,_,I,B=>q13ab0k (tks L) (iv a) (iv d) (I.map It.cells) (B.map Bd.cells)
 |false,true,false,false,_,C,_,_=>q13ab0c (tks L) (iv a) (iv d) (C.map Cl.cells)
 |false,true,false,true,_,C,_,B=>q13ab0j (tks L) (iv a) (iv d) (C.map Cl.cells) (B.map Bd.cells)
 |false,true,true,false,_,C,I,_=>q13ab0i (tks L) (iv a) (iv d) (C.map Cl.cells) (I.map It.cells)
 |false,true,true,true,_,C,I,B=>q13ab0o (tks L) (iv a) (iv d) (C.map Cl.cells) (I.map It.cells) (B.map Bd.cells)
 |true,false,false,false,D,_,_,_=>q13ab0b (tks L) (iv a) (iv d) (D.map Dt.cells)
 |true,false,false,true,D,_,_,B=>q13ab0h (tks L) (iv a) (iv d) (D.map Dt.cells) (B.map Bd.cells)
 |true,false,true,false,D,_,I,_=>q13ab0g (tks L) (iv a) (iv d) (D.map Dt.cells) (I.map It.cells)
 |true,false,true,true,D,_,I,B=>q13ab0n (tks L) (iv a) (iv d) (D.map Dt.cells) (I.map It.cells) (B.map Bd.cells)
 |true,true,false,false,D,C,_,_=>q13ab0f (tks L) (iv a) (iv d) (D.map Dt.cells) (C.map Cl.cells)
 |true,true,false,true,D,C,_,B=>q13ab0m (tks L) (iv a) (iv d) (D.map Dt.cells) (C.map Cl.cells) (B.map Bd.cells)
 |true,true,true,false,D,C,I,_=>q13ab0l (tks L) (iv a) (iv d) (D.map Dt.cells) (C.map Cl.cells) (I.map It.cells)
 |true,true,true,true,D,C,I,B=>q13ab0p (tks L) (iv a) (iv d) (D.map Dt.cells) (C.map Cl.cells) (I.map It.cells) (B.map Bd.cells)
abbrev mkPg(D:List Dt)(C:List Cl)(I:List It)(B:List Bd):Pg:=⟨⟨D,C,I⟩,B⟩
abbrev pcs(b1 b2 b3 b4:Bool)(T U V W:List (List PV)):List PV:=[fl b1 (.rows T),fl b2 (.rows U),fl b3 (.rows V),fl b4 (.rows W),nS,nS,nS,nS]
def okG(L:List Tk)(a:Nat)(d:Int)(v:Pg)(b:Nat)(z:Rs):Prop:=a≤b∧∃b1 b2 b3 b4:Bool,(b1=false→v.datas=[])∧(b2=false→v.classes=[])∧(b3=false→v.insts=[])∧(b4=false→v.binds=[])∧z=(okP b1 b2 b3 b4,ps L b d (pcs b1 b2 b3 b4 (v.datas.map Dt.cells) (v.classes.map Cl.cells) (v.insts.map It.cells) (v.binds.map Bd.cells)))
def erG(L:List Tk)(e w:Int)(z:Rs):Prop:=∃(b:Nat) (d':Int) (b1 b2 b3 b4:Bool) (T U V W:List (List PV)),z=(erP b1 b2 b3 b4,ps L b d' (pcs b1 b2 b3 b4 T U V W++[iv e,iv w]))
section
variable{L:List Tk}(hW:WfL L)
include hW
theorem s_progs:∀(m:Nat) (b1 b2 b3 b4:Bool) (D:List Dt) (C:List Cl) (I:List It) (B:List Bd) (a:Nat) (d:Int),(b1=false→D=[])→(b2=false→C=[])→(b3=false→I=[])→(b4=false→B=[])→D.length+C.length+I.length+B.length≤a→0≤d→d≤300→a<L.length→PE_ L (prQ L a d b1 b2 b3 b4 D C I B) (progG L m (mkPg D C I B) d a) (okG L a d) (erG L):=by
 intro m
 induction m with
 |zero=>intro b1 b2 b3 b4 D C I B a d _ _ _ _ _ _ _ _;rw[progG];trivial
 |succ m ih=>
  intro b1 b2 b3 b4 D C I B a d i1 i2 i3 i4 hl h0 h1 ha
  have hLl:=hW.len
  have jD:=fun(v:Dt) (b:Nat) (hab:a<b) (hb:b<L.length)=>ih true b2 b3 b4 (D++[v]) C I B b d (fun h=>by cases h) i2 i3 i4 (by simp only[List.length_append,List.length_cons,List.length_nil];omega) h0 h1 hb
  have jC:=fun(v:Cl) (b:Nat) (hab:a<b) (hb:b<L.length)=>ih b1 true b3 b4 D (C++[v]) I B b d i1 (fun h=>by cases h) i3 i4 (by simp only[List.length_append,List.length_cons,List.length_nil];omega) h0 h1 hb
  have jI:=fun(v:It) (b:Nat) (hab:a<b) (hb:b<L.length)=>ih b1 b2 true b4 D C (I++[v]) B b d i1 i2 (fun h=>by cases h) i4 (by simp only[List.length_append,List.length_cons,List.length_nil];omega) h0 h1 hb
  have jB:=fun(v:Bd) (b:Nat) (hab:a<b) (hb:b<L.length)=>ih b1 b2 b3 true D C I (B++[v]) b d i1 i2 i3 (fun h=>by cases h) (by simp only[List.length_append,List.length_cons,List.length_nil];omega) h0 h1 hb
  have kO:okG L a d (mkPg D C I B) a (okP b1 b2 b3 b4,ps L a d (pcs b1 b2 b3 b4 (D.map Dt.cells) (C.map Cl.cells) (I.map It.cells) (B.map Bd.cells))):=⟨Nat.le_refl _,_,_,_,_,i1,i2,i3,i4,rfl⟩
  have kE:=fun(b:Nat) (d' e w:Int)=>(⟨b,d',b1,b2,b3,b4,D.map Dt.cells,C.map Cl.cells,I.map It.cells,B.map Bd.cells,rfl⟩:erG L e w (erP b1 b2 b3 b4,ps L b d' (pcs b1 b2 b3 b4 (D.map Dt.cells) (C.map Cl.cells) (I.map It.cells) (B.map Bd.cells)++[iv e,iv w])))
  have kD:=fun(v:Dt) (b:Nat) (e w:Int)=>(⟨b,d,true,b2,b3,b4,D.map Dt.cells++[dtC v],C.map Cl.cells,I.map It.cells,B.map Bd.cells,rfl⟩:erG L e w (erP true b2 b3 b4,ps L b d (pcs true b2 b3 b4 (D.map Dt.cells++[dtC v]) (C.map Cl.cells) (I.map It.cells) (B.map Bd.cells)++[iv e,iv w])))
  have kC:=fun(v:Cl) (b:Nat) (e w:Int)=>(⟨b,d,b1,true,b3,b4,D.map Dt.cells,C.map Cl.cells++[clC v],I.map It.cells,B.map Bd.cells,rfl⟩:erG L e w (erP b1 true b3 b4,ps L b d (pcs b1 true b3 b4 (D.map Dt.cells) (C.map Cl.cells++[clC v]) (I.map It.cells) (B.map Bd.cells)++[iv e,iv w])))
  have kI:=fun(v:It) (b:Nat) (e w:Int)=>(⟨b,d,b1,b2,true,b4,D.map Dt.cells,C.map Cl.cells,I.map It.cells++[itC v],B.map Bd.cells,rfl⟩:erG L e w (erP b1 b2 true b4,ps L b d (pcs b1 b2 true b4 (D.map Dt.cells) (C.map Cl.cells) (I.map It.cells++[itC v]) (B.map Bd.cells)++[iv e,iv w])))
  have kB:=fun(v:Bd) (b:Nat) (e w:Int)=>(⟨b,d,b1,b2,b3,true,D.map Dt.cells,C.map Cl.cells,I.map It.cells,B.map Bd.cells++[bdC v],rfl⟩:erG L e w (erP b1 b2 b3 true,ps L b d (pcs b1 b2 b3 true (D.map Dt.cells) (C.map Cl.cells) (I.map It.cells) (B.map Bd.cells++[bdC v])++[iv e,iv w])))
  have aD:=fun(v:Dt) k'=>appK_raw (P:=PG) (d:=.fail) (k:=k') slDt (raw_dts D) (c:=dtC v) rfl (by simp) (by simp;omega) (by decide)
  have aC:=fun(v:Cl) k'=>appK_raw (P:=PG) (d:=.fail) (k:=k') slCl (raw_cls C) (c:=clC v) rfl (by simp) (by simp;omega) (by decide)
  have aI:=fun(v:It) k'=>appK_raw (P:=PG) (d:=.fail) (k:=k') slIt (raw_its I) (c:=itC v) rfl (by simp) (by simp;omega) (by decide)
  have aB:=fun(v:Bd) k'=>appK_raw (P:=PG) (d:=.fail) (k:=k') slBd (raw_bds B) (c:=bdC v) rfl (by simp) (by simp;omega) (by decide)
  refine .of ?_
  cases b1<;>cases b2<;>cases b3<;>cases b4
  all_goals
   (first|(obtain rfl:=i1 rfl)|skip)
   (first|(obtain rfl:=i2 rfl)|skip)
   (first|(obtain rfl:=i3 rfl)|skip)
   (first|(obtain rfl:=i4 rfl)|skip)
   simp only[prQ,List.map_append,List.map_cons,List.map_nil,List.nil_append,Dt.cells,Cl.cells,It.cells,Bd.cells_eq,pcs,fl_t,fl_f,ps,List.cons_append] at jD jC jI jB kO kE kD kC kI kB aD aC aI aB
   rw[progG.eq_2]
   (first
    |rw[prQ,h13ab0a,g13ab0a]
    |rw[prQ,h13ab0e,g13ab0e]
    |rw[prQ,h13ab0d,g13ab0d]
    |rw[prQ,h13ab0k,g13ab0k]
    |rw[prQ,h13ab0c,g13ab0c]
    |rw[prQ,h13ab0j,g13ab0j]
    |rw[prQ,h13ab0i,g13ab0i]
    |rw[prQ,h13ab0o,g13ab0o]
    |rw[prQ,h13ab0b,g13ab0b]
    |rw[prQ,h13ab0h,g13ab0h]
    |rw[prQ,h13ab0g,g13ab0g]
    |rw[prQ,h13ab0n,g13ab0n]
    |rw[prQ,h13ab0f,g13ab0f]
    |rw[prQ,h13ab0m,g13ab0m]
    |rw[prQ,h13ab0l,g13ab0l]
    |rw[prQ,h13ab0p,g13ab0p]
    )
   refine .kind (fun k0=>?_) (fun k0=>?_)
   ·exact .pure ha (by simp[-Int.natCast_add,p_next ha,Tk.cells,k0]) kO
   ·simp[-Int.natCast_add,p_next ha,Tk.cells,eq_false k0]
    simp[-Int.natCast_add,p_skip hW ha]
    refine .may (fun hd=>?_) (fun hd=>?_)
    ·have hl1:=isT_fin hW hd
     simp[-Int.natCast_add,hd]
     refine .callW (s_data hW m (a+1) d h0 h1 hl1) (fun v b hb hab g=>?_) (fun e w b d' g=>?_)
     ·simp[-Int.natCast_add,g]
      (first|simp only[aD v]|skip)
      refine .take (by decide) (fun hs=>?_) (fun hs=>?_)
      ·have hl2:=isT_fin hW hs
       simp[-Int.natCast_add,p_want hW hb,hs,Tk.cells]
       have hn:=jD v (b+1) (by omega) hl2
       revert hn
       generalize progG L m _ d (b+1)=r
       intro hn
       cases r with
       |out=>trivial
       |err e w=>obtain⟨z,g1,hz⟩:=hn;exact⟨z,by obtain⟨_,_⟩:=z;simp[-Int.natCast_add,g1],hz⟩
       |ok v2 b2=>obtain⟨hb2,z,g1,h5,hz⟩:=hn;exact⟨hb2,z,by obtain⟨_,_⟩:=z;simp[-Int.natCast_add,g1],by omega,hz⟩
      ·exact⟨_,by simp[-Int.natCast_add,p_want hW hb,hs],kD v b _ _⟩
     ·exact⟨_,by simp[-Int.natCast_add,g],kE b d' _ _⟩
    ·simp[-Int.natCast_add,hd]
     simp[-Int.natCast_add,p_skip hW ha]
     refine .may (fun hd=>?_) (fun hd=>?_)
     ·have hl1:=isT_fin hW hd
      simp[-Int.natCast_add,hd]
      refine .callW (s_class hW m (a+1) d h0 h1 hl1) (fun v b hb hab g=>?_) (fun e w b d' g=>?_)
      ·simp[-Int.natCast_add,g]
       (first|simp only[aC v]|skip)
       refine .take (by decide) (fun hs=>?_) (fun hs=>?_)
       ·have hl2:=isT_fin hW hs
        simp[-Int.natCast_add,p_want hW hb,hs,Tk.cells]
        have hn:=jC v (b+1) (by omega) hl2
        revert hn
        generalize progG L m _ d (b+1)=r
        intro hn
        cases r with
        |out=>trivial
        |err e w=>obtain⟨z,g1,hz⟩:=hn;exact⟨z,by obtain⟨_,_⟩:=z;simp[-Int.natCast_add,g1],hz⟩
        |ok v2 b2=>obtain⟨hb2,z,g1,h5,hz⟩:=hn;exact⟨hb2,z,by obtain⟨_,_⟩:=z;simp[-Int.natCast_add,g1],by omega,hz⟩
       ·exact⟨_,by simp[-Int.natCast_add,p_want hW hb,hs],kC v b _ _⟩
      ·exact⟨_,by simp[-Int.natCast_add,g],kE b d' _ _⟩
     ·simp[-Int.natCast_add,hd]
      simp[-Int.natCast_add,p_skip hW ha]
      refine .may (fun hd=>?_) (fun hd=>?_)
      ·have hl1:=isT_fin hW hd
       simp[-Int.natCast_add,hd]
       refine .callW (s_inst hW m (a+1) d h0 h1 hl1) (fun v b hb hab g=>?_) (fun e w b d' g=>?_)
       ·simp[-Int.natCast_add,g]
        (first|simp only[aI v]|skip)
        refine .take (by decide) (fun hs=>?_) (fun hs=>?_)
        ·have hl2:=isT_fin hW hs
         simp[-Int.natCast_add,p_want hW hb,hs,Tk.cells]
         have hn:=jI v (b+1) (by omega) hl2
         revert hn
         generalize progG L m _ d (b+1)=r
         intro hn
         cases r with
         |out=>trivial
         |err e w=>obtain⟨z,g1,hz⟩:=hn;exact⟨z,by obtain⟨_,_⟩:=z;simp[-Int.natCast_add,g1],hz⟩
         |ok v2 b2=>obtain⟨hb2,z,g1,h5,hz⟩:=hn;exact⟨hb2,z,by obtain⟨_,_⟩:=z;simp[-Int.natCast_add,g1],by omega,hz⟩
        ·exact⟨_,by simp[-Int.natCast_add,p_want hW hb,hs],kI v b _ _⟩
       ·exact⟨_,by simp[-Int.natCast_add,g],kE b d' _ _⟩
      ·simp[-Int.natCast_add,hd]
       refine .take (by decide) (fun hd=>?_) (fun hd=>?_)
       ·have hl1:=isT_fin hW hd
        simp[-Int.natCast_add,p_want hW ha,hd,Tk.cells]
        refine .callW (s_bd hW m (a+1) d h0 h1 hl1) (fun v b hb hab g=>?_) (fun e w b d' g=>?_)
        ·simp[-Int.natCast_add,g]
         (first|simp only[aB v]|skip)
         refine .take (by decide) (fun hs=>?_) (fun hs=>?_)
         ·have hl2:=isT_fin hW hs
          simp[-Int.natCast_add,p_want hW hb,hs,Tk.cells]
          have hn:=jB v (b+1) (by omega) hl2
          revert hn
          generalize progG L m _ d (b+1)=r
          intro hn
          cases r with
          |out=>trivial
          |err e w=>obtain⟨z,g1,hz⟩:=hn;exact⟨z,by obtain⟨_,_⟩:=z;simp[-Int.natCast_add,g1],hz⟩
          |ok v2 b2=>obtain⟨hb2,z,g1,h5,hz⟩:=hn;exact⟨hb2,z,by obtain⟨_,_⟩:=z;simp[-Int.natCast_add,g1],by omega,hz⟩
         ·exact⟨_,by simp[-Int.natCast_add,p_want hW hb,hs],kB v b _ _⟩
        ·exact⟨_,by simp[-Int.natCast_add,g],kE b d' _ _⟩
       ·exact⟨_,by simp[-Int.natCast_add,p_want hW ha,hd],kE a d _ _⟩
end
set_option maxRecDepth 10000
set_option maxHeartbeats 4000000
theorem weak_ok{L:List Tk}{q qw:Q}{m:List Nat}{k b:Nat}{d:Int}{ys zs:List PV}(hw:body PG EE TT ev qw=weakM m (ev q))(h:ev q=some (k,ps L b d ys))(hk:nth 0 m k=0)(hy:wdPs ys=zs):ev qw=some (0,ps L b d zs):=Evl.of (by
 rw[hw,h,weakM_some,hk]
 simp[hy])
theorem weak_er{L:List Tk}{q qw:Q}{m:List Nat}{k b:Nat}{d e w:Int}(hw:body PG EE TT ev qw=weakM m (ev q))(h:ev q=some (k,ps L b d [iv e,iv w]))(hk:nth 0 m k=1):ev qw=some (1,ps L b d [iv e,iv w]):=Evl.of (by
 rw[hw,h,weakM_some,hk])
abbrev pgC(v:Pg):List PV:=[.rows (v.datas.map Dt.cells),.rows (v.classes.map Cl.cells),.rows (v.insts.map It.cells),.rows (v.binds.map Bd.cells)]
theorem wd_ds(l:List Dt):wdP (.rows (l.map Dt.cells))=.rows (l.map Dt.cells):=by
 have:wdP (dts l)=dts l:=by simp
 rw[dts] at this;exact this
theorem wd_cs(l:List Cl):wdP (.rows (l.map Cl.cells))=.rows (l.map Cl.cells):=by
 have:wdP (cls l)=cls l:=by simp
 rw[cls] at this;exact this
theorem wd_is(l:List It):wdP (.rows (l.map It.cells))=.rows (l.map It.cells):=by
 have:wdP (its l)=its l:=by simp
 rw[its] at this;exact this
theorem bindG_ok{α β:Type}{p:GM α}{k:α→GM β}{d:Int}{a b:Nat}{v:β}(h:bindG p k d a=.ok v b):∃x c,k x d c=.ok v b:=by
 unfold bindG at h
 cases hp:p d a with
 |out=>rw[hp] at h;cases h
 |err e w=>rw[hp] at h;cases h
 |ok x c=>rw[hp] at h;exact⟨x,c,h⟩
theorem prog_end(L:List Tk):∀(m:Nat) (p:Pg) (d:Int) (a b:Nat) (v:Pg),progG L m p d a=.ok v b→(tkAt L b).kind=0
 |0,p,d,a,b,v,h=>by rw[progG] at h;cases h
 |m+1,p,d,a,b,v,h=>by
  rw[progG] at h
  unfold kindG at h
  split at h
  ·cases h;assumption
  ·have key:∀{α:Type} (q:GM α) (x:ByteArray) (f:α→Pg) (c:Nat),bindG q (fun x'=>bindG (takeG L 7 x) fun _=>progG L m (f x')) d c=.ok v b→(tkAt L b).kind=0:=fun q x f c h=>by
    obtain⟨y,c1,h⟩:=bindG_ok h
    obtain⟨z,c2,h⟩:=bindG_ok h
    exact prog_end L m _ d c2 b v h
   unfold mayG at h
   split at h
   ·exact key _ _ _ _ h
   ·split at h
    ·exact key _ _ _ _ h
    ·split at h
     ·exact key _ _ _ _ h
     ·obtain⟨y,c1,h⟩:=bindG_ok h
      exact key _ _ _ _ h
section
variable{L:List Tk}(hW:WfL L)
include hW
abbrev pPr(L:List Tk)(a:Nat)(d:Int):Q:=q13aw (tks L) (iv a) (iv d)
theorem s_prog(m a:Nat)(d:Int)(h0:0≤d)(h1:d≤300)(ha:a<L.length):PE_ L (pPr L a d) (progG L m (mkPg [] [] [] []) d a) (fun v b z=>z=(0,ps L b d (pgC v))) (erS L 1):=by
 have hn:=s_progs hW m false false false false [] [] [] [] a d (fun _=>rfl) (fun _=>rfl) (fun _=>rfl) (fun _=>rfl) (by simp) h0 h1 ha
 have hw:=h13aw ev (tks L) (iv a) (iv d)
 revert hn
 generalize progG L m (mkPg [] [] [] []) d a=r
 intro hn
 cases r with
 |out=>trivial
 |err e w=>
  obtain⟨z,g,b,d',b1,b2,b3,b4,T,U,V,W,rfl⟩:=hn
  simp only[prQ] at g
  refine⟨_,weak_er (k:=16) (b:=b) (d:=d') (e:=e) (w:=w) hw (Evl.of ?_) rfl,b,d',rfl⟩
  rw[h13a,g13a]
  cases b1<;>cases b2<;>cases b3<;>cases b4
  all_goals
   simp only[pcs,fl_t,fl_f,ps,List.cons_append,List.nil_append] at g
   simp[g]
 |ok v b=>
  obtain⟨hb,z,g,hab,b1,b2,b3,b4,i1,i2,i3,i4,rfl⟩:=hn
  simp only[prQ] at g
  refine⟨hb,_,?_,rfl⟩
  cases b1<;>cases b2<;>cases b3<;>cases b4
  all_goals
   simp only[pcs,fl_t,fl_f,ps,List.cons_append,List.nil_append] at g
  ·exact weak_ok (k:=0) (ys:=[nS,nS,nS,nS]) hw (Evl.of (by rw[h13a,g13a];simp[g])) rfl (by simp[wd_ds,wd_cs,wd_is,wd_bs,i1 rfl,i2 rfl,i3 rfl,i4 rfl])
  ·exact weak_ok (k:=1) (ys:=[nS,nS,nS,.rows (v.binds.map Bd.cells)]) hw (Evl.of (by rw[h13a,g13a];simp[g])) rfl (by simp[wd_ds,wd_cs,wd_is,wd_bs,i1 rfl,i2 rfl,i3 rfl])
  ·exact weak_ok (k:=2) (ys:=[nS,nS,.rows (v.insts.map It.cells),nS]) hw (Evl.of (by rw[h13a,g13a];simp[g])) rfl (by simp[wd_ds,wd_cs,wd_is,wd_bs,i1 rfl,i2 rfl,i4 rfl])
  ·exact weak_ok (k:=3) (ys:=[nS,nS,.rows (v.insts.map It.cells),.rows (v.binds.map Bd.cells)]) hw (Evl.of (by rw[h13a,g13a];simp[g])) rfl (by simp[wd_ds,wd_cs,wd_is,wd_bs,i1 rfl,i2 rfl])
  ·exact weak_ok (k:=4) (ys:=[nS,.rows (v.classes.map Cl.cells),nS,nS]) hw (Evl.of (by rw[h13a,g13a];simp[g])) rfl (by simp[wd_ds,wd_cs,wd_is,wd_bs,i1 rfl,i3 rfl,i4 rfl])
  ·exact weak_ok (k:=5) (ys:=[nS,.rows (v.classes.map Cl.cells),nS,.rows (v.binds.map Bd.cells)]) hw (Evl.of (by rw[h13a,g13a];simp[g])) rfl (by simp[wd_ds,wd_cs,wd_is,wd_bs,i1 rfl,i3 rfl])
  ·exact weak_ok (k:=6) (ys:=[nS,.rows (v.classes.map Cl.cells),.rows (v.insts.map It.cells),nS]) hw (Evl.of (by rw[h13a,g13a];simp[g])) rfl (by simp[wd_ds,wd_cs,wd_is,wd_bs,i1 rfl,i4 rfl])
  ·exact weak_ok (k:=7) (ys:=[nS,.rows (v.classes.map Cl.cells),.rows (v.insts.map It.cells),.rows (v.binds.map Bd.cells)]) hw (Evl.of (by rw[h13a,g13a];simp[g])) rfl (by simp[wd_ds,wd_cs,wd_is,wd_bs,i1 rfl])
  ·exact weak_ok (k:=8) (ys:=[.rows (v.datas.map Dt.cells),nS,nS,nS]) hw (Evl.of (by rw[h13a,g13a];simp[g])) rfl (by simp[wd_ds,wd_cs,wd_is,wd_bs,i2 rfl,i3 rfl,i4 rfl])
  ·exact weak_ok (k:=9) (ys:=[.rows (v.datas.map Dt.cells),nS,nS,.rows (v.binds.map Bd.cells)]) hw (Evl.of (by rw[h13a,g13a];simp[g])) rfl (by simp[wd_ds,wd_cs,wd_is,wd_bs,i2 rfl,i3 rfl])
  ·exact weak_ok (k:=10) (ys:=[.rows (v.datas.map Dt.cells),nS,.rows (v.insts.map It.cells),nS]) hw (Evl.of (by rw[h13a,g13a];simp[g])) rfl (by simp[wd_ds,wd_cs,wd_is,wd_bs,i2 rfl,i4 rfl])
  ·exact weak_ok (k:=11) (ys:=[.rows (v.datas.map Dt.cells),nS,.rows (v.insts.map It.cells),.rows (v.binds.map Bd.cells)]) hw (Evl.of (by rw[h13a,g13a];simp[g])) rfl (by simp[wd_ds,wd_cs,wd_is,wd_bs,i2 rfl])
  ·exact weak_ok (k:=12) (ys:=[.rows (v.datas.map Dt.cells),.rows (v.classes.map Cl.cells),nS,nS]) hw (Evl.of (by rw[h13a,g13a];simp[g])) rfl (by simp[wd_ds,wd_cs,wd_is,wd_bs,i3 rfl,i4 rfl])
  ·exact weak_ok (k:=13) (ys:=[.rows (v.datas.map Dt.cells),.rows (v.classes.map Cl.cells),nS,.rows (v.binds.map Bd.cells)]) hw (Evl.of (by rw[h13a,g13a];simp[g])) rfl (by simp[wd_ds,wd_cs,wd_is,wd_bs,i3 rfl])
  ·exact weak_ok (k:=14) (ys:=[.rows (v.datas.map Dt.cells),.rows (v.classes.map Cl.cells),.rows (v.insts.map It.cells),nS]) hw (Evl.of (by rw[h13a,g13a];simp[g])) rfl (by simp[wd_ds,wd_cs,wd_is,wd_bs,i4 rfl])
  ·exact weak_ok (k:=15) (ys:=[.rows (v.datas.map Dt.cells),.rows (v.classes.map Cl.cells),.rows (v.insts.map It.cells),.rows (v.binds.map Bd.cells)]) hw (Evl.of (by rw[h13a,g13a];simp[g])) rfl (by simp[wd_ds,wd_cs,wd_is,wd_bs])
end
set_option maxRecDepth 10000
def PPr(b:ByteArray)(r:Rz Pg):Prop:=match r with
 |.out=>True
 |.ok v _=>ev (q7 (sv b))=some (0,pgC v++[iv 0,iv 0])
 |.err e w=>ev (q7 (sv b))=some (0,[nS,nS,nS,nS,iv e,iv w])
theorem pprog_x(b:ByteArray)(hb:b.size≤1000000):match scanT b with
  |.error (c,p)=>PPr b (.err c p)
  |.ok L=>∀m,PPr b (progG L m ⟨⟨[],[],[]⟩,[]⟩ 0 0):=by
 have hs:=scan_p b hb
 cases ht:scanT b with
 |error p=>
  obtain⟨c,p⟩:=p
  rw[ht] at hs
  have hc:=scanT_bad ht
  have hw:ev (q12a (sv b))=some (0,[nS,nS,nS,nS,iv c,iv (p:Nat)]):=Evl.of (by rw[h12a,g12a];simp[hs,hc])
  exact Evl.of (by rw[h7,g7];simp[hw])
 |ok L=>
  rw[ht] at hs
  obtain⟨hz,hl,hW⟩:=scanT_ok ht
  intro m
  have hn:=s_prog hW m 0 0 (by decide) (by decide) hW.pos
  have he:∀v b',progG L m (mkPg [] [] [] []) 0 0=.ok v b'→_:=fun v b'=>prog_end L m _ 0 0 b' v
  revert hn he
  show PE_ L (pPr L 0 0) (progG L m (mkPg [] [] [] []) 0 0) _ _→_→PPr b (progG L m (mkPg [] [] [] []) 0 0)
  generalize progG L m (mkPg [] [] [] []) 0 0=r
  intro hn he
  cases r with
  |out=>trivial
  |err e w=>
   obtain⟨z,g,b',d',rfl⟩:=hn
   have g:ev (q13aw (tks L) (iv 0) (iv 0))=_:=g
   have hw:ev (q12a (sv b))=some (0,[nS,nS,nS,nS,iv e,iv w]):=Evl.of (by rw[h12a,g12a];simp[hs,g])
   exact Evl.of (by rw[h7,g7];simp[hw])
  |ok v b'=>
   obtain⟨hb',z,g,rfl⟩:=hn
   have g:ev (q13aw (tks L) (iv 0) (iv 0))=_:=g
   have hk:=p_kind hW hb' 0 (iv 0)
   rw[if_pos (he v b' rfl)] at hk
   have hw:ev (q12a (sv b))=some (0,pgC v++[iv 0,iv 0]):=Evl.of (by rw[h12a,g12a];simp[-Int.natCast_add,hs,g,hk,Tk.cells])
   exact Evl.of (by rw[h7,g7];simp[hw])
end Go.Proofs.YtfphhabaeggenaaDoor
