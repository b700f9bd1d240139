/- Joined. -/
import Derived.Test.YtjpjcjnacnlhdaaGreatBg
set_option linter.unusedSimpArgs false
set_option linter.unusedVariables false
set_option linter.unusedSectionVars false
namespace Go.Proofs.YtjpjcjnacnlhdaaGreat.X
open Go.RowKit
section
variable{L:List Tk}(hL:L.length≤1000000)
include hL
theorem ctx_b{n:Nat}(nm:ByteArray)(hk:Int)(hn:ByteArray)(hz:Int)(hq:PV)(a:Int):∀(m:Nat) (s:St) (es:List (List PV)) (l:List Pd),Raw 5 es (l.map Pd.cells)→mu L s≤m→m≤n→s.a≤L.length→l.length+m≤2000000→∃(s':St) (es':List (List PV)) (l':List Pd),
  ev (q33ab0b (tks L) (iv s.a) (iv s.lv) (iv s.e) (iv s.w) (sv nm) (iv hk) (sv hn) (iv hz) hq es (iv a))=some (1,sts L s' [sv nm,iv hk,sv hn,iv hz,hq,.rows es',nilS,iv a,sv eB,iv 0,sv eB,iv 0,nilS,nilS,nilS,iv 0])∧Raw 5 es' ((l++l').map Pd.cells)∧
  s'.a≤L.length∧mu L s'≤mu L s∧(∀t∈l',t.Ok)∧l'.length≤mu L s-mu L s':=by
 intro m
 induction m with
 |zero=>
  intro s es l hr hm hn' hs hl
  have he:s.e≠0:=fun he=>by have:=mu_pos (L:=L) he;omega
  exact⟨s,es,[],Evl.of (by rw[h33ab0b,g33ab0b];simp[he]),by simpa using hr,hs,Nat.le_refl _,(by simp),by simp⟩
 |succ m ihm=>
  intro s es l hr hm hn' hs hl
  by_cases he:s.e=0
  ·have hp:=mu_pos (L:=L) he
   have hln:=hr.len
   rw[List.length_map]at hln
   have t1:=take_mu (L:=L) (k:=2) (x:=eB) (by decide) s
   have t2:=take_a (L:=L) (k:=2) (x:=eB) (by decide) hs
   have t3:=take_mu (L:=L) (k:=1) (x:=eB) (by decide) (takeS L 2 eB s)
   have t4:=take_a (L:=L) (k:=1) (x:=eB) (by decide) t2
   have hw:wdPs [sv (takeT L 2 eB s).text,iv 1,sv (takeT L 1 eB (takeS L 2 eB s)).text,iv 0,nilS]=Pd.cells ⟨(takeT L 2 eB s).text,ty0 1 (takeT L 1 eB (takeS L 2 eB s)).text⟩:=by simp[Pd.cells,ty0]
   have hx:(Pd.mk (takeT L 2 eB s).text (ty0 1 (takeT L 1 eB (takeS L 2 eB s)).text)).Ok:=ty0_ok _ _
   have hr2:Raw 5 (es++[[sv (takeT L 2 eB s).text,iv 1,sv (takeT L 1 eB (takeS L 2 eB s)).text,iv 0,nilS]]) ((l++[Pd.mk (takeT L 2 eB s).text (ty0 1 (takeT L 1 eB (takeS L 2 eB s)).text)]).map Pd.cells):=by
    have:=hr.app (c:=[sv (takeT L 2 eB s).text,iv 1,sv (takeT L 1 eB (takeS L 2 eB s)).text,iv 0,nilS]) hw rfl (by simp)
    simpa using this
   have ha:=fun k'=>appK_raw (P:=PG) (d:=.fail) (k:=k') slPd hr (c:=[sv (takeT L 2 eB s).text,iv 1,sv (takeT L 1 eB (takeS L 2 eB s)).text,iv 0,nilS]) rfl (by simp) (by omega) (by decide)
   cases hb:isB L ⟨#[44]⟩ (takeS L 1 eB (takeS L 2 eB s)) with
   |true=>
    obtain⟨b1,b2⟩:=may_in hb
    obtain⟨s3,es',l',r1,r2,r3,r4,r5,r6⟩:=ihm (takeS L 1 eB (takeS L 2 eB s)).up _ _ hr2 (by omega) (by omega) b2 (by simp;omega)
    refine⟨s3,es',_::l',Evl.of ?_,by simpa using r2,r3,by omega,?_,by simp;omega⟩
    ·rw[h33ab0b,g33ab0b]
     simp[eq_true he]
     simp[take_m hL (k:=2) (by decide),take_m hL (k:=1) (by decide),Tk.cells]
     simp[ha]
     simp[may_m hL,hb,may_t hb]
     simp[r1]
    ·intro x hx'
     rcases List.mem_cons.1 hx' with rfl|hx'
     ·exact hx
     ·exact r5 x hx'
   |false=>
    refine⟨(takeS L 1 eB (takeS L 2 eB s)),_,[_],Evl.of ?_,hr2,t4,by omega,by simpa using hx,by simp;omega⟩
    ·rw[h33ab0b,g33ab0b]
     simp[eq_true he]
     simp[take_m hL (k:=2) (by decide),take_m hL (k:=1) (by decide),Tk.cells]
     simp[ha]
     simp[may_m hL,hb,may_f hb]
     rw[Evl.of (h33ab0c ev _ _ _ _ _ _ _ _ _ _ _ _)]
     rfl
  ·exact⟨s,es,[],Evl.of (by rw[h33ab0b,g33ab0b];simp[he]),by simpa using hr,hs,Nat.le_refl _,(by simp),by simp⟩
theorem ctx_a(nm:ByteArray)(hk:Int)(hn:ByteArray)(hz:Int)(hq:PV)(a:Int)(s:St)(hs:s.a≤L.length):∃(s':St) (es':List (List PV)) (l':List Pd),
  ((l'=[]∧ev (q33ab0a (tks L) (iv s.a) (iv s.lv) (iv s.e) (iv s.w) (sv nm) (iv hk) (sv hn) (iv hz) hq (iv a))=some (0,sts L s' [sv nm,iv hk,sv hn,iv hz,hq,nilS,nilS,iv a,sv eB,iv 0,sv eB,iv 0,nilS,nilS,nilS,iv 0]))∨
   (Raw 5 es' (l'.map Pd.cells)∧ev (q33ab0a (tks L) (iv s.a) (iv s.lv) (iv s.e) (iv s.w) (sv nm) (iv hk) (sv hn) (iv hz) hq (iv a))=some (1,sts L s' [sv nm,iv hk,sv hn,iv hz,hq,.rows es',nilS,iv a,sv eB,iv 0,sv eB,iv 0,nilS,nilS,nilS,iv 0])))∧
  s'.a≤L.length∧mu L s'≤mu L s∧(∀t∈l',t.Ok)∧l'.length≤10000000:=by
  by_cases he:s.e=0
  ·have hp:=mu_pos (L:=L) he
   have t1:=take_mu (L:=L) (k:=2) (x:=eB) (by decide) s
   have t2:=take_a (L:=L) (k:=2) (x:=eB) (by decide) hs
   have t3:=take_mu (L:=L) (k:=1) (x:=eB) (by decide) (takeS L 2 eB s)
   have t4:=take_a (L:=L) (k:=1) (x:=eB) (by decide) t2
   have hw:wdPs [sv (takeT L 2 eB s).text,iv 1,sv (takeT L 1 eB (takeS L 2 eB s)).text,iv 0,nilS]=Pd.cells ⟨(takeT L 2 eB s).text,ty0 1 (takeT L 1 eB (takeS L 2 eB s)).text⟩:=by simp[Pd.cells,ty0]
   have hx:(Pd.mk (takeT L 2 eB s).text (ty0 1 (takeT L 1 eB (takeS L 2 eB s)).text)).Ok:=ty0_ok _ _
   have hr2:Raw 5 [[sv (takeT L 2 eB s).text,iv 1,sv (takeT L 1 eB (takeS L 2 eB s)).text,iv 0,nilS]] ([Pd.mk (takeT L 2 eB s).text (ty0 1 (takeT L 1 eB (takeS L 2 eB s)).text)].map Pd.cells):=.one hw rfl (by simp)
   cases hb:isB L ⟨#[44]⟩ (takeS L 1 eB (takeS L 2 eB s)) with
   |true=>
    obtain⟨b1,b2⟩:=may_in hb
    have hml:=mu_le L (takeS L 1 eB (takeS L 2 eB s)).up
    obtain⟨s3,es',l',r1,r2,r3,r4,r5,r6⟩:=ctx_b hL nm hk hn hz hq a (mu L (takeS L 1 eB (takeS L 2 eB s)).up) (takeS L 1 eB (takeS L 2 eB s)).up _ _ hr2 (Nat.le_refl _) (Nat.le_refl _) b2 (by simp;omega)
    refine⟨s3,es',_::l',.inr ⟨by simpa using r2,Evl.of ?_⟩,r3,by omega,?_,by simp;omega⟩
    ·rw[h33ab0a,g33ab0a]
     simp[eq_true he]
     simp[take_m hL (k:=2) (by decide),take_m hL (k:=1) (by decide),Tk.cells]
     simp[may_m hL,hb,may_t hb]
     simp[r1]
    ·intro x hx'
     rcases List.mem_cons.1 hx' with rfl|hx'
     ·exact hx
     ·exact r5 x hx'
   |false=>
    refine⟨(takeS L 1 eB (takeS L 2 eB s)),_,[_],.inr ⟨hr2,Evl.of ?_⟩,t4,by omega,by simpa using hx,by simp⟩
    ·rw[h33ab0a,g33ab0a]
     simp[eq_true he]
     simp[take_m hL (k:=2) (by decide),take_m hL (k:=1) (by decide),Tk.cells]
     simp[may_m hL,hb,may_f hb]
     rw[Evl.of (h33ab0c ev _ _ _ _ _ _ _ _ _ _ _ _)]
     rfl
  ·exact⟨s,[],[],.inl ⟨rfl,Evl.of (by rw[h33ab0a,g33ab0a];simp[he])⟩,hs,Nat.le_refl _,(by simp),by simp⟩
theorem ib_e{n:Nat}(nm:ByteArray)(hk:Int)(hn:ByteArray)(hz:Int)(hq:PV)(a:Int):∀(m:Nat) (s:St) (l:List Bd),mu L s≤m→m≤n→s.a≤L.length→l.length+m≤2000000→∃(s':St) (l':List Bd),
  ev (q33ab2e (tks L) (iv s.a) (iv s.lv) (iv s.e) (iv s.w) (sv nm) (iv hk) (sv hn) (iv hz) hq (l.map Bd.cells) (iv a))=some (1,sts L s' [sv nm,iv hk,sv hn,iv hz,hq,nilS,bds (l++l'),iv a,sv eB,iv 0,sv eB,iv 0,nilS,nilS,nilS,iv 0])∧
  s'.a≤L.length∧mu L s'≤mu L s∧(∀t∈l',t.Ok)∧l'.length≤mu L s-mu L s':=by
 intro m
 induction m with
 |zero=>
  intro s l hm hn' hs hl
  have he:s.e≠0:=fun he=>by have:=mu_pos (L:=L) he;omega
  exact⟨s,[],Evl.of (by rw[h33ab2e,g33ab2e];simp[he,bds]),hs,Nat.le_refl _,(by simp),by simp⟩
 |succ m ihm=>
  intro s l hm hn' hs hl
  by_cases he:s.e=0
  ·have hp:=mu_pos (L:=L) he
   cases hb:isB L ⟨#[101,110,100]⟩ s with
   |true=>
    obtain⟨b1,b2⟩:=may_in hb
    refine⟨s.up,[],Evl.of ?_,b2,by omega,(by simp),by simp⟩
    rw[h33ab2e,g33ab2e]
    simp[eq_true he]
    simp[may_m hL,hb,may_t hb,bds]
   |false=>
    have t1:=take_mu (L:=L) (k:=6) (x:=⟨#[100,101,102]⟩) (by decide) s
    have t2:=take_a (L:=L) (k:=6) (x:=⟨#[100,101,102]⟩) (by decide) hs
    obtain⟨v,s2,f1,f2,f3,f4⟩:=binds_ok hL (mu L s) (takeS L 6 ⟨#[100,101,102]⟩ s) t2 (by omega)
    have t3:=take_mu (L:=L) (k:=7) (x:=⟨#[59]⟩) (by decide) s2
    have t4:=take_a (L:=L) (k:=7) (x:=⟨#[59]⟩) (by decide) f2
    obtain⟨s3,l',g1,g2,g3,g4,g5⟩:=ihm (takeS L 7 ⟨#[59]⟩ s2) (l++[v]) (by omega) (by omega) t4 (by simp;omega)
    rw[mapB,List.append_assoc]at g1
    have ha:=fun k'=>appK_raw (P:=PG) (d:=.fail) (k:=k') slBd (raw_bds l) (c:=bdC v) rfl (by simp) (by simp;omega) (by decide)
    refine⟨s3,v::l',Evl.of ?_,g2,by omega,?_,by simp;omega⟩
    ·rw[h33ab2e,g33ab2e]
     simp[eq_true he]
     simp[may_m hL,hb,may_f hb]
     simp[take_m hL (k:=6) (by decide),Tk.cells]
     simp[f1]
     simp[ha]
     simp[take_m hL (k:=7) (by decide),Tk.cells]
     simp[g1]
    ·intro x hx
     rcases List.mem_cons.1 hx with rfl|hx
     ·exact f4
     ·exact g4 x hx
  ·exact⟨s,[],Evl.of (by rw[h33ab2e,g33ab2e];simp[he,bds]),hs,Nat.le_refl _,(by simp),by simp⟩
theorem ib_a(nm:ByteArray)(hk:Int)(hn:ByteArray)(hz:Int)(hq:PV)(a:Int)(s:St)(hs:s.a≤L.length):∃(s':St) (l':List Bd),
  ((l'=[]∧ev (q33ab2a (tks L) (iv s.a) (iv s.lv) (iv s.e) (iv s.w) (sv nm) (iv hk) (sv hn) (iv hz) hq (iv a))=some (0,sts L s' [sv nm,iv hk,sv hn,iv hz,hq,nilS,nilS,iv a,sv eB,iv 0,sv eB,iv 0,nilS,nilS,nilS,iv 0]))∨
   ev (q33ab2a (tks L) (iv s.a) (iv s.lv) (iv s.e) (iv s.w) (sv nm) (iv hk) (sv hn) (iv hz) hq (iv a))=some (1,sts L s' [sv nm,iv hk,sv hn,iv hz,hq,nilS,bds l',iv a,sv eB,iv 0,sv eB,iv 0,nilS,nilS,nilS,iv 0]))∧
  s'.a≤L.length∧mu L s'≤mu L s∧(∀t∈l',t.Ok)∧l'.length≤10000000:=by
 by_cases he:s.e=0
 ·have hp:=mu_pos (L:=L) he
  cases hb:isB L ⟨#[101,110,100]⟩ s with
  |true=>
   obtain⟨b1,b2⟩:=may_in hb
   refine⟨s.up,[],.inl ⟨rfl,Evl.of ?_⟩,b2,by omega,(by simp),by simp⟩
   rw[h33ab2a,g33ab2a]
   simp[eq_true he]
   simp[may_m hL,hb,may_t hb]
  |false=>
   have t1:=take_mu (L:=L) (k:=6) (x:=⟨#[100,101,102]⟩) (by decide) s
   have t2:=take_a (L:=L) (k:=6) (x:=⟨#[100,101,102]⟩) (by decide) hs
   obtain⟨v,s2,f1,f2,f3,f4⟩:=binds_ok hL (mu L s) (takeS L 6 ⟨#[100,101,102]⟩ s) t2 (by omega)
   have t3:=take_mu (L:=L) (k:=7) (x:=⟨#[59]⟩) (by decide) s2
   have t4:=take_a (L:=L) (k:=7) (x:=⟨#[59]⟩) (by decide) f2
   have hml:=mu_le L (takeS L 7 ⟨#[59]⟩ s2)
   obtain⟨s3,l',g1,g2,g3,g4,g5⟩:=ib_e hL nm hk hn hz hq a (mu L (takeS L 7 ⟨#[59]⟩ s2)) (takeS L 7 ⟨#[59]⟩ s2) [v] (Nat.le_refl _) (Nat.le_refl _) t4 (by simp;omega)
   have e:[v].map Bd.cells=[bdC v]:=mapB [] v
   rw[e]at g1
   refine⟨s3,v::l',.inr (Evl.of ?_),g2,by omega,?_,by simp;omega⟩
   ·rw[h33ab2a,g33ab2a]
    simp[eq_true he]
    simp[may_m hL,hb,may_f hb]
    simp[take_m hL (k:=6) (by decide),Tk.cells]
    simp[f1]
    simp[take_m hL (k:=7) (by decide),Tk.cells]
    simp at g1
    simp[g1]
   ·intro x hx
    rcases List.mem_cons.1 hx with rfl|hx
    ·exact f4
    ·exact g4 x hx
 ·exact⟨s,[],.inl ⟨rfl,Evl.of (by rw[h33ab2a,g33ab2a];simp[he])⟩,hs,Nat.le_refl _,(by simp),by simp⟩
theorem ib_g{n:Nat}(nm:ByteArray)(hk:Int)(hn:ByteArray)(hz:Int)(hq:PV)(a:Int)(CR:List (List PV)):∀(m:Nat) (s:St) (l:List Bd),mu L s≤m→m≤n→s.a≤L.length→l.length+m≤2000000→∃(s':St) (l':List Bd),
  ev (q33ab2g (tks L) (iv s.a) (iv s.lv) (iv s.e) (iv s.w) (sv nm) (iv hk) (sv hn) (iv hz) hq CR (l.map Bd.cells) (iv a))=some (1,sts L s' [sv nm,iv hk,sv hn,iv hz,hq,.rows CR,bds (l++l'),iv a,sv eB,iv 0,sv eB,iv 0,nilS,nilS,nilS,iv 0])∧
  s'.a≤L.length∧mu L s'≤mu L s∧(∀t∈l',t.Ok)∧l'.length≤mu L s-mu L s':=by
 intro m
 induction m with
 |zero=>
  intro s l hm hn' hs hl
  have he:s.e≠0:=fun he=>by have:=mu_pos (L:=L) he;omega
  exact⟨s,[],Evl.of (by rw[h33ab2g,g33ab2g];simp[he,bds]),hs,Nat.le_refl _,(by simp),by simp⟩
 |succ m ihm=>
  intro s l hm hn' hs hl
  by_cases he:s.e=0
  ·have hp:=mu_pos (L:=L) he
   cases hb:isB L ⟨#[101,110,100]⟩ s with
   |true=>
    obtain⟨b1,b2⟩:=may_in hb
    refine⟨s.up,[],Evl.of ?_,b2,by omega,(by simp),by simp⟩
    rw[h33ab2g,g33ab2g]
    simp[eq_true he]
    simp[may_m hL,hb,may_t hb,bds]
   |false=>
    have t1:=take_mu (L:=L) (k:=6) (x:=⟨#[100,101,102]⟩) (by decide) s
    have t2:=take_a (L:=L) (k:=6) (x:=⟨#[100,101,102]⟩) (by decide) hs
    obtain⟨v,s2,f1,f2,f3,f4⟩:=binds_ok hL (mu L s) (takeS L 6 ⟨#[100,101,102]⟩ s) t2 (by omega)
    have t3:=take_mu (L:=L) (k:=7) (x:=⟨#[59]⟩) (by decide) s2
    have t4:=take_a (L:=L) (k:=7) (x:=⟨#[59]⟩) (by decide) f2
    obtain⟨s3,l',g1,g2,g3,g4,g5⟩:=ihm (takeS L 7 ⟨#[59]⟩ s2) (l++[v]) (by omega) (by omega) t4 (by simp;omega)
    rw[mapB,List.append_assoc]at g1
    have ha:=fun k'=>appK_raw (P:=PG) (d:=.fail) (k:=k') slBd (raw_bds l) (c:=bdC v) rfl (by simp) (by simp;omega) (by decide)
    refine⟨s3,v::l',Evl.of ?_,g2,by omega,?_,by simp;omega⟩
    ·rw[h33ab2g,g33ab2g]
     simp[eq_true he]
     simp[may_m hL,hb,may_f hb]
     simp[take_m hL (k:=6) (by decide),Tk.cells]
     simp[f1]
     simp[ha]
     simp[take_m hL (k:=7) (by decide),Tk.cells]
     simp[g1]
    ·intro x hx
     rcases List.mem_cons.1 hx with rfl|hx
     ·exact f4
     ·exact g4 x hx
  ·exact⟨s,[],Evl.of (by rw[h33ab2g,g33ab2g];simp[he,bds]),hs,Nat.le_refl _,(by simp),by simp⟩
theorem ib_c(nm:ByteArray)(hk:Int)(hn:ByteArray)(hz:Int)(hq:PV)(a:Int)(CR:List (List PV))(s:St)(hs:s.a≤L.length):∃(s':St) (l':List Bd),
  ((l'=[]∧ev (q33ab2c (tks L) (iv s.a) (iv s.lv) (iv s.e) (iv s.w) (sv nm) (iv hk) (sv hn) (iv hz) hq CR (iv a))=some (0,sts L s' [sv nm,iv hk,sv hn,iv hz,hq,.rows CR,nilS,iv a,sv eB,iv 0,sv eB,iv 0,nilS,nilS,nilS,iv 0]))∨
   ev (q33ab2c (tks L) (iv s.a) (iv s.lv) (iv s.e) (iv s.w) (sv nm) (iv hk) (sv hn) (iv hz) hq CR (iv a))=some (1,sts L s' [sv nm,iv hk,sv hn,iv hz,hq,.rows CR,bds l',iv a,sv eB,iv 0,sv eB,iv 0,nilS,nilS,nilS,iv 0]))∧
  s'.a≤L.length∧mu L s'≤mu L s∧(∀t∈l',t.Ok)∧l'.length≤10000000:=by
 by_cases he:s.e=0
 ·have hp:=mu_pos (L:=L) he
  cases hb:isB L ⟨#[101,110,100]⟩ s with
  |true=>
   obtain⟨b1,b2⟩:=may_in hb
   refine⟨s.up,[],.inl ⟨rfl,Evl.of ?_⟩,b2,by omega,(by simp),by simp⟩
   rw[h33ab2c,g33ab2c]
   simp[eq_true he]
   simp[may_m hL,hb,may_t hb]
  |false=>
   have t1:=take_mu (L:=L) (k:=6) (x:=⟨#[100,101,102]⟩) (by decide) s
   have t2:=take_a (L:=L) (k:=6) (x:=⟨#[100,101,102]⟩) (by decide) hs
   obtain⟨v,s2,f1,f2,f3,f4⟩:=binds_ok hL (mu L s) (takeS L 6 ⟨#[100,101,102]⟩ s) t2 (by omega)
   have t3:=take_mu (L:=L) (k:=7) (x:=⟨#[59]⟩) (by decide) s2
   have t4:=take_a (L:=L) (k:=7) (x:=⟨#[59]⟩) (by decide) f2
   have hml:=mu_le L (takeS L 7 ⟨#[59]⟩ s2)
   obtain⟨s3,l',g1,g2,g3,g4,g5⟩:=ib_g hL nm hk hn hz hq a CR (mu L (takeS L 7 ⟨#[59]⟩ s2)) (takeS L 7 ⟨#[59]⟩ s2) [v] (Nat.le_refl _) (Nat.le_refl _) t4 (by simp;omega)
   have e:[v].map Bd.cells=[bdC v]:=mapB [] v
   rw[e]at g1
   refine⟨s3,v::l',.inr (Evl.of ?_),g2,by omega,?_,by simp;omega⟩
   ·rw[h33ab2c,g33ab2c]
    simp[eq_true he]
    simp[may_m hL,hb,may_f hb]
    simp[take_m hL (k:=6) (by decide),Tk.cells]
    simp[f1]
    simp[take_m hL (k:=7) (by decide),Tk.cells]
    simp at g1
    simp[g1]
   ·intro x hx
    rcases List.mem_cons.1 hx with rfl|hx
    ·exact f4
    ·exact g4 x hx
 ·exact⟨s,[],.inl ⟨rfl,Evl.of (by rw[h33ab2c,g33ab2c];simp[he])⟩,hs,Nat.le_refl _,(by simp),by simp⟩
theorem kids_allT(t:Ty):t.kids.length≤(allT t).length:=by
 have h:=kids_le t.kids
 cases t with
 |mk k s n l=>rw[allT_mk];simp only[Ty.kids]at h ⊢;omega
theorem inst_ok(n:Nat):Par L (n+1) (qIt L) itC (fun x _ _=>x.Ok∧x.head.kids.length≤10000000∧x.binds.length≤10000000):=
 Par.weak (q:=fun s=>q33a (tks L) (iv s.a) (iv s.lv) (iv s.e) (iv s.w)) (fun s=>h33aw ev _ _ _ _ _) fun s hs hm=>by
  show Good L s itC (fun x _ _=>x.Ok∧x.head.kids.length≤10000000∧x.binds.length≤10000000) (body PG EE TT ev (q33a (tks L) (iv s.a) (iv s.lv) (iv s.e) (iv s.w)))
  rw[h33a,g33a]
  have t1:=take_mu (L:=L) (k:=2) (x:=eB) (by decide) s
  have t2:=take_a (L:=L) (k:=2) (x:=eB) (by decide) hs
  simp[take_m hL (k:=2) (by decide),Tk.cells]
  generalize takeS L 2 eB s=s1 at *
  generalize takeT L 2 eB s=t at *
  obtain⟨h,s2,e1,e2,e3,e4⟩:=atypes_ok hL (n+1) s1 t2 (by omega)
  have hk7:h.kids.length≤10000000:=by
   have k1:=kids_allT hL h
   have k2:=mu_le L s1
   have k3:=e4.2
   omega
  simp[e1]
  simp[may_m hL]
  refine bK_ind (fun hb=>?_) (fun hb=>?_)
  ·obtain⟨b1,b2⟩:=may_in hb
   rw[may_t hb]
   obtain⟨s3,es,cl,hc,g2,g3,g4,g5⟩:=ctx_a hL t.text h.kind h.name h.n (tys h.kids) t.at_ s2.up b2
   rcases hc with⟨rfl,hc⟩|⟨hr,hc⟩
   ·simp[hc]
    have w1:=take_mu (L:=L) (k:=6) (x:=⟨#[119,104,101,114,101]⟩) (by decide) s3
    have w2:=take_a (L:=L) (k:=6) (x:=⟨#[119,104,101,114,101]⟩) (by decide) g2
    simp[take_m hL (k:=6) (by decide),Tk.cells]
    obtain⟨s5,l,hd,z2,z3,z4,z5⟩:=ib_a hL t.text h.kind h.name h.n (tys h.kids) t.at_ (takeS L 6 ⟨#[119,104,101,114,101]⟩ s3) w2
    have hx:(It.mk t.text h [] l t.at_).Ok∧h.kids.length≤10000000∧l.length≤10000000:=⟨⟨e4.1,⟨by unfold maxN;simp;try omega,by simp⟩,by unfold maxN;simp only;omega,z4⟩,hk7,z5⟩
    rcases hd with⟨rfl,hd⟩|hd
    ·simp[hd]
     exact Good.of _ _ s5 ⟨t.text,h,[],[],t.at_⟩ (by simp) z2 (by omega) hx
    ·simp[hd]
     exact Good.of _ _ s5 ⟨t.text,h,[],l,t.at_⟩ (by simp) z2 (by omega) hx
   ·simp[hc]
    have w1:=take_mu (L:=L) (k:=6) (x:=⟨#[119,104,101,114,101]⟩) (by decide) s3
    have w2:=take_a (L:=L) (k:=6) (x:=⟨#[119,104,101,114,101]⟩) (by decide) g2
    simp[take_m hL (k:=6) (by decide),Tk.cells]
    obtain⟨s5,l,hd,z2,z3,z4,z5⟩:=ib_c hL t.text h.kind h.name h.n (tys h.kids) t.at_ es (takeS L 6 ⟨#[119,104,101,114,101]⟩ s3) w2
    have hx:(It.mk t.text h cl l t.at_).Ok∧h.kids.length≤10000000∧l.length≤10000000:=⟨⟨e4.1,⟨by unfold maxN;simp;try omega,g4⟩,by unfold maxN;simp only;omega,z4⟩,hk7,z5⟩
    rcases hd with⟨rfl,hd⟩|hd
    ·simp[hd]
     exact Good.of _ _ s5 ⟨t.text,h,cl,[],t.at_⟩ (by simp[hr.wd,pds]) z2 (by omega) hx
    ·simp[hd]
     exact Good.of _ _ s5 ⟨t.text,h,cl,l,t.at_⟩ (by simp[hr.wd,pds]) z2 (by omega) hx
  ·rw[may_f hb]
   have w1:=take_mu (L:=L) (k:=6) (x:=⟨#[119,104,101,114,101]⟩) (by decide) s2
   have w2:=take_a (L:=L) (k:=6) (x:=⟨#[119,104,101,114,101]⟩) (by decide) e2
   simp[take_m hL (k:=6) (by decide),Tk.cells]
   obtain⟨s5,l,hd,z2,z3,z4,z5⟩:=ib_a hL t.text h.kind h.name h.n (tys h.kids) t.at_ (takeS L 6 ⟨#[119,104,101,114,101]⟩ s2) w2
   have hx:(It.mk t.text h [] l t.at_).Ok∧h.kids.length≤10000000∧l.length≤10000000:=⟨⟨e4.1,⟨by unfold maxN;simp;try omega,by simp⟩,by unfold maxN;simp only;omega,z4⟩,hk7,z5⟩
   rcases hd with⟨rfl,hd⟩|hd
   ·simp[hd]
    exact Good.of _ _ s5 ⟨t.text,h,[],[],t.at_⟩ (by simp) z2 (by omega) hx
   ·simp[hd]
    exact Good.of _ _ s5 ⟨t.text,h,[],l,t.at_⟩ (by simp) z2 (by omega) hx
end
theorem slDt:SlT PG 23 5 96:=SlT.of (by kernel_rfl)
theorem slCl:SlT PG 24 6 112:=SlT.of (by kernel_rfl)
theorem slIt:SlT PG 25 8 128:=SlT.of (by kernel_rfl)
theorem raw_dts(l:List Dt):Raw 5 (l.map Dt.cells) (l.map Dt.cells):=.of l (fun x=>by simp[Dt.cells]) (fun x=>rfl) (fun x=>by simp[Dt.cells])
theorem raw_cls(l:List Cl):Raw 6 (l.map Cl.cells) (l.map Cl.cells):=.of l (fun x=>by simp[Cl.cells]) (fun x=>rfl) (fun x=>by simp[Cl.cells])
theorem raw_its(l:List It):Raw 8 (l.map It.cells) (l.map It.cells):=.of l (fun x=>by simp[It.cells]) (fun x=>rfl) (fun x=>by simp[It.cells])
section
variable{L:List Tk}(hL:L.length≤1000000)
include hL
omit hL in
theorem pk{q q':Q}{r:Rs}(h:ev q'=some r)(e:q=q'):passK (ev q)=.ok r:=by rw[e,h];rfl
def qP(L:List Tk)(s:St):List Dt→List Cl→List It→List Bd→Q
 |[],[],[],[]=>q7b0a (tks L) (iv s.a) (iv s.lv) (iv s.e) (iv s.w)
 |x0::l0,[],[],[]=>q7b0b (tks L) (iv s.a) (iv s.lv) (iv s.e) (iv s.w) ((x0::l0).map Dt.cells)
 |[],x1::l1,[],[]=>q7b0c (tks L) (iv s.a) (iv s.lv) (iv s.e) (iv s.w) ((x1::l1).map Cl.cells)
 |[],[],x2::l2,[]=>q7b0d (tks L) (iv s.a) (iv s.lv) (iv s.e) (iv s.w) ((x2::l2).map It.cells)
 |[],[],[],x3::l3=>q7b0e (tks L) (iv s.a) (iv s.lv) (iv s.e) (iv s.w) ((x3::l3).map Bd.cells)
 |x0::l0,x1::l1,[],[]=>q7b0f (tks L) (iv s.a) (iv s.lv) (iv s.e) (iv s.w) ((x0::l0).map Dt.cells) ((x1::l1).map Cl.cells)
 |x0::l0,[],x2::l2,[]=>q7b0g (tks L) (iv s.a) (iv s.lv) (iv s.e) (iv s.w) ((x0::l0).map Dt.cells) ((x2::l2).map It.cells)
 |x0::l0,[],[],x3::l3=>q7b0h (tks L) (iv s.a) (iv s.lv) (iv s.e) (iv s.w) ((x0::l0).map Dt.cells) ((x3::l3).map Bd.cells)
 |[],x1::l1,x2::l2,[]=>q7b0i (tks L) (iv s.a) (iv s.lv) (iv s.e) (iv s.w) ((x1::l1).map Cl.cells) ((x2::l2).map It.cells)
 |[],x1::l1,[],x3::l3=>q7b0j (tks L) (iv s.a) (iv s.lv) (iv s.e) (iv s.w) ((x1::l1).map Cl.cells) ((x3::l3).map Bd.cells)
 |[],[],x2::l2,x3::l3=>q7b0k (tks L) (iv s.a) (iv s.lv) (iv s.e) (iv s.w) ((x2::l2).map It.cells) ((x3::l3).map Bd.cells)
 |x0::l0,x1::l1,x2::l2,[]=>q7b0l (tks L) (iv s.a) (iv s.lv) (iv s.e) (iv s.w) ((x0::l0).map Dt.cells) ((x1::l1).map Cl.cells) ((x2::l2).map It.cells)
 |x0::l0,x1::l1,[],x3::l3=>q7b0m (tks L) (iv s.a) (iv s.lv) (iv s.e) (iv s.w) ((x0::l0).map Dt.cells) ((x1::l1).map Cl.cells) ((x3::l3).map Bd.cells)
 |x0::l0,[],x2::l2,x3::l3=>q7b0n (tks L) (iv s.a) (iv s.lv) (iv s.e) (iv s.w) ((x0::l0).map Dt.cells) ((x2::l2).map It.cells) ((x3::l3).map Bd.cells)
 |[],x1::l1,x2::l2,x3::l3=>q7b0o (tks L) (iv s.a) (iv s.lv) (iv s.e) (iv s.w) ((x1::l1).map Cl.cells) ((x2::l2).map It.cells) ((x3::l3).map Bd.cells)
 |x0::l0,x1::l1,x2::l2,x3::l3=>q7b0p (tks L) (iv s.a) (iv s.lv) (iv s.e) (iv s.w) ((x0::l0).map Dt.cells) ((x1::l1).map Cl.cells) ((x2::l2).map It.cells) ((x3::l3).map Bd.cells)
def fP(L:List Tk)(s:St):List Dt→List Cl→List It→List Bd→Rs
 |[],[],[],[]=>(0,sts L s [nilS,nilS,nilS,nilS,nilS,nilS,nilS,nilS])
 |x0::l0,[],[],[]=>(1,sts L s [dts (x0::l0),nilS,nilS,nilS,nilS,nilS,nilS,nilS])
 |[],x1::l1,[],[]=>(2,sts L s [nilS,cls (x1::l1),nilS,nilS,nilS,nilS,nilS,nilS])
 |[],[],x2::l2,[]=>(3,sts L s [nilS,nilS,its (x2::l2),nilS,nilS,nilS,nilS,nilS])
 |[],[],[],x3::l3=>(4,sts L s [nilS,nilS,nilS,bds (x3::l3),nilS,nilS,nilS,nilS])
 |x0::l0,x1::l1,[],[]=>(5,sts L s [dts (x0::l0),cls (x1::l1),nilS,nilS,nilS,nilS,nilS,nilS])
 |x0::l0,[],x2::l2,[]=>(6,sts L s [dts (x0::l0),nilS,its (x2::l2),nilS,nilS,nilS,nilS,nilS])
 |x0::l0,[],[],x3::l3=>(7,sts L s [dts (x0::l0),nilS,nilS,bds (x3::l3),nilS,nilS,nilS,nilS])
 |[],x1::l1,x2::l2,[]=>(8,sts L s [nilS,cls (x1::l1),its (x2::l2),nilS,nilS,nilS,nilS,nilS])
 |[],x1::l1,[],x3::l3=>(9,sts L s [nilS,cls (x1::l1),nilS,bds (x3::l3),nilS,nilS,nilS,nilS])
 |[],[],x2::l2,x3::l3=>(10,sts L s [nilS,nilS,its (x2::l2),bds (x3::l3),nilS,nilS,nilS,nilS])
 |x0::l0,x1::l1,x2::l2,[]=>(11,sts L s [dts (x0::l0),cls (x1::l1),its (x2::l2),nilS,nilS,nilS,nilS,nilS])
 |x0::l0,x1::l1,[],x3::l3=>(12,sts L s [dts (x0::l0),cls (x1::l1),nilS,bds (x3::l3),nilS,nilS,nilS,nilS])
 |x0::l0,[],x2::l2,x3::l3=>(13,sts L s [dts (x0::l0),nilS,its (x2::l2),bds (x3::l3),nilS,nilS,nilS,nilS])
 |[],x1::l1,x2::l2,x3::l3=>(14,sts L s [nilS,cls (x1::l1),its (x2::l2),bds (x3::l3),nilS,nilS,nilS,nilS])
 |x0::l0,x1::l1,x2::l2,x3::l3=>(15,sts L s [dts (x0::l0),cls (x1::l1),its (x2::l2),bds (x3::l3),nilS,nilS,nilS,nilS])
theorem qP_out(s:St)(d:List Dt)(c:List Cl)(i:List It)(b:List Bd)(h:s.e≠0∨(nextT L s).kind=0):ev (qP L s d c i b)=some (fP L s d c i b):=by
 rcases d with _|⟨x0,l0⟩<;>rcases c with _|⟨x1,l1⟩<;>rcases i with _|⟨x2,l2⟩<;>rcases b with _|⟨x3,l3⟩<;>
 (refine Evl.of ?_
  simp only[qP,fP]
  first|rw[h7b0a,g7b0a]|rw[h7b0b,g7b0b]|rw[h7b0c,g7b0c]|rw[h7b0d,g7b0d]|rw[h7b0e,g7b0e]|rw[h7b0f,g7b0f]|rw[h7b0g,g7b0g]|rw[h7b0h,g7b0h]|rw[h7b0i,g7b0i]|rw[h7b0j,g7b0j]|rw[h7b0k,g7b0k]|rw[h7b0l,g7b0l]|rw[h7b0m,g7b0m]|rw[h7b0n,g7b0n]|rw[h7b0o,g7b0o]|rw[h7b0p,g7b0p]
  by_cases he:s.e=0
  ·have hk:=h.resolve_left (fun h=>h he)
   simp[-List.map_cons,eq_true he]
   simp[-List.map_cons,next_m,Tk.cells,hk,dts,cls,its,bds]
  ·simp[-List.map_cons,he,dts,cls,its,bds])
theorem qP_0(s:St)(d:List Dt)(c:List Cl)(i:List It)(b:List Bd)(hl:d.length≤3000000)(s1:St)(v:Dt)(r:Rs)(he:s.e=0)(hk:(nextT L s).kind≠0)(b0:isB L ⟨#[100,97,116,97]⟩ s=true)(f1:ev (qDt L s.up)=some (0,sts L s1 (dtC v)))(hn:ev (qP L (takeS L 7 ⟨#[59]⟩ s1) (d++[v]) c i b)=some r):ev (qP L s d c i b)=some r:=by
 have ha:=fun(k':PV→Res)=>appK_raw (P:=PG) (d:=.fail) (k:=k') slDt (raw_dts d) (c:=dtC v) rfl (by simp) (by simpa using Nat.le_trans hl (by decide)) (by decide)
 rcases d with _|⟨x0,l0⟩<;>rcases c with _|⟨x1,l1⟩<;>rcases i with _|⟨x2,l2⟩<;>rcases b with _|⟨x3,l3⟩<;>
 (refine Evl.of ?_
  simp only[qP,List.cons_append,List.nil_append]at hn ⊢
  first|rw[h7b0a,g7b0a]|rw[h7b0b,g7b0b]|rw[h7b0c,g7b0c]|rw[h7b0d,g7b0d]|rw[h7b0e,g7b0e]|rw[h7b0f,g7b0f]|rw[h7b0g,g7b0g]|rw[h7b0h,g7b0h]|rw[h7b0i,g7b0i]|rw[h7b0j,g7b0j]|rw[h7b0k,g7b0k]|rw[h7b0l,g7b0l]|rw[h7b0m,g7b0m]|rw[h7b0n,g7b0n]|rw[h7b0o,g7b0o]|rw[h7b0p,g7b0p]
  simp[-List.map_cons,eq_true he]
  simp[-List.map_cons,next_m,Tk.cells,hk]
  simp[-List.map_cons,may_m hL,b0,may_t b0]
  simp[-List.map_cons,f1]
  try simp only[ha]
  simp[-List.map_cons,take_m hL (k:=7) (by decide),Tk.cells]
  exact pk hn (by simp[Dt.cells]))
theorem qP_1(s:St)(d:List Dt)(c:List Cl)(i:List It)(b:List Bd)(hl:c.length≤3000000)(s1:St)(v:Cl)(r:Rs)(he:s.e=0)(hk:(nextT L s).kind≠0)(b0:isB L ⟨#[100,97,116,97]⟩ s=false)(b1:isB L ⟨#[99,108,97,115,115]⟩ s=true)(f1:ev (qCl L s.up)=some (0,sts L s1 (clC v)))(hn:ev (qP L (takeS L 7 ⟨#[59]⟩ s1) d (c++[v]) i b)=some r):ev (qP L s d c i b)=some r:=by
 have ha:=fun(k':PV→Res)=>appK_raw (P:=PG) (d:=.fail) (k:=k') slCl (raw_cls c) (c:=clC v) rfl (by simp) (by simpa using Nat.le_trans hl (by decide)) (by decide)
 rcases d with _|⟨x0,l0⟩<;>rcases c with _|⟨x1,l1⟩<;>rcases i with _|⟨x2,l2⟩<;>rcases b with _|⟨x3,l3⟩<;>
 (refine Evl.of ?_
  simp only[qP,List.cons_append,List.nil_append]at hn ⊢
  first|rw[h7b0a,g7b0a]|rw[h7b0b,g7b0b]|rw[h7b0c,g7b0c]|rw[h7b0d,g7b0d]|rw[h7b0e,g7b0e]|rw[h7b0f,g7b0f]|rw[h7b0g,g7b0g]|rw[h7b0h,g7b0h]|rw[h7b0i,g7b0i]|rw[h7b0j,g7b0j]|rw[h7b0k,g7b0k]|rw[h7b0l,g7b0l]|rw[h7b0m,g7b0m]|rw[h7b0n,g7b0n]|rw[h7b0o,g7b0o]|rw[h7b0p,g7b0p]
  simp[-List.map_cons,eq_true he]
  simp[-List.map_cons,next_m,Tk.cells,hk]
  simp[-List.map_cons,may_m hL,b0,may_f b0,b1,may_t b1]
  simp[-List.map_cons,f1]
  try simp only[ha]
  simp[-List.map_cons,take_m hL (k:=7) (by decide),Tk.cells]
  exact pk hn (by simp[Cl.cells]))
theorem qP_2(s:St)(d:List Dt)(c:List Cl)(i:List It)(b:List Bd)(hl:i.length≤3000000)(s1:St)(v:It)(r:Rs)(he:s.e=0)(hk:(nextT L s).kind≠0)(b0:isB L ⟨#[100,97,116,97]⟩ s=false)(b1:isB L ⟨#[99,108,97,115,115]⟩ s=false)(b2:isB L ⟨#[105,110,115,116,97,110,99,101]⟩ s=true)(f1:ev (qIt L s.up)=some (0,sts L s1 (itC v)))(hn:ev (qP L (takeS L 7 ⟨#[59]⟩ s1) d c (i++[v]) b)=some r):ev (qP L s d c i b)=some r:=by
 have ha:=fun(k':PV→Res)=>appK_raw (P:=PG) (d:=.fail) (k:=k') slIt (raw_its i) (c:=itC v) rfl (by simp) (by simpa using Nat.le_trans hl (by decide)) (by decide)
 rcases d with _|⟨x0,l0⟩<;>rcases c with _|⟨x1,l1⟩<;>rcases i with _|⟨x2,l2⟩<;>rcases b with _|⟨x3,l3⟩<;>
 (refine Evl.of ?_
  simp only[qP,List.cons_append,List.nil_append]at hn ⊢
  first|rw[h7b0a,g7b0a]|rw[h7b0b,g7b0b]|rw[h7b0c,g7b0c]|rw[h7b0d,g7b0d]|rw[h7b0e,g7b0e]|rw[h7b0f,g7b0f]|rw[h7b0g,g7b0g]|rw[h7b0h,g7b0h]|rw[h7b0i,g7b0i]|rw[h7b0j,g7b0j]|rw[h7b0k,g7b0k]|rw[h7b0l,g7b0l]|rw[h7b0m,g7b0m]|rw[h7b0n,g7b0n]|rw[h7b0o,g7b0o]|rw[h7b0p,g7b0p]
  simp[-List.map_cons,eq_true he]
  simp[-List.map_cons,next_m,Tk.cells,hk]
  simp[-List.map_cons,may_m hL,b0,may_f b0,b1,may_f b1,b2,may_t b2]
  simp[-List.map_cons,f1]
  try simp only[ha]
  simp[-List.map_cons,take_m hL (k:=7) (by decide),Tk.cells]
  exact pk hn (by simp[It.cells]))
theorem qP_3(s:St)(d:List Dt)(c:List Cl)(i:List It)(b:List Bd)(hl:b.length≤3000000)(s1:St)(v:Bd)(r:Rs)(he:s.e=0)(hk:(nextT L s).kind≠0)(b0:isB L ⟨#[100,97,116,97]⟩ s=false)(b1:isB L ⟨#[99,108,97,115,115]⟩ s=false)(b2:isB L ⟨#[105,110,115,116,97,110,99,101]⟩ s=false)(f1:ev (qBd L (takeS L 6 ⟨#[100,101,102]⟩ s))=some (0,sts L s1 (bdC v)))(hn:ev (qP L (takeS L 7 ⟨#[59]⟩ s1) d c i (b++[v]))=some r):ev (qP L s d c i b)=some r:=by
 have ha:=fun(k':PV→Res)=>appK_raw (P:=PG) (d:=.fail) (k:=k') slBd (raw_bds b) (c:=bdC v) rfl (by simp) (by simpa using Nat.le_trans hl (by decide)) (by decide)
 rcases d with _|⟨x0,l0⟩<;>rcases c with _|⟨x1,l1⟩<;>rcases i with _|⟨x2,l2⟩<;>rcases b with _|⟨x3,l3⟩<;>
 (refine Evl.of ?_
  simp only[qP,List.cons_append,List.nil_append]at hn ⊢
  first|rw[h7b0a,g7b0a]|rw[h7b0b,g7b0b]|rw[h7b0c,g7b0c]|rw[h7b0d,g7b0d]|rw[h7b0e,g7b0e]|rw[h7b0f,g7b0f]|rw[h7b0g,g7b0g]|rw[h7b0h,g7b0h]|rw[h7b0i,g7b0i]|rw[h7b0j,g7b0j]|rw[h7b0k,g7b0k]|rw[h7b0l,g7b0l]|rw[h7b0m,g7b0m]|rw[h7b0n,g7b0n]|rw[h7b0o,g7b0o]|rw[h7b0p,g7b0p]
  simp[-List.map_cons,eq_true he]
  simp[-List.map_cons,next_m,Tk.cells,hk]
  simp[-List.map_cons,may_m hL,b0,may_f b0,b1,may_f b1,b2,may_f b2]
  simp[-List.map_cons,take_m hL (k:=6) (by decide),Tk.cells]
  simp[-List.map_cons,f1]
  try simp only[ha]
  simp[-List.map_cons,take_m hL (k:=7) (by decide),Tk.cells]
  exact pk hn (by simp[Bd.cells_eq]))
end
section
variable{L:List Tk}(hL:L.length≤1000000)
include hL
structure PgP(n:Nat)(d:List Dt)(c:List Cl)(i:List It)(b:List Bd):Prop where
 od:∀x∈d,x.Ok∧x.cons.length≤n
 oc:∀x∈c,x.Ok∧x.methods.length≤n∧x.supers.length≤10000000∧x.defaults.length≤10000000
 oi:∀x∈i,x.Ok∧x.head.kids.length≤10000000∧x.binds.length≤10000000
 ob:∀x∈b,x.Ok
 nd:d.length≤n
 nc:c.length≤n
 ni:i.length≤n
 nb:b.length≤n
theorem qP_loop(hS:L.length≤100000):∀(m:Nat) (s:St) (d:List Dt) (c:List Cl) (i:List It) (b:List Bd),mu L s≤m→s.a≤L.length→d.length+m≤2000000→c.length+m≤2000000→i.length+m≤2000000→b.length+m≤2000000→
  ∃(s':St) (d':List Dt) (c':List Cl) (i':List It) (b':List Bd),ev (qP L s d c i b)=some (fP L s' (d++d') (c++c') (i++i') (b++b'))∧PgP (mu L s) d' c' i' b':=by
 intro m
 induction m with
 |zero=>
  intro s d c i b hm hs _ _ _ _
  have he:s.e≠0:=fun he=>by have:=mu_pos (L:=L) he;omega
  exact⟨s,[],[],[],[],by simpa using qP_out hL s d c i b (.inl he),by simp,by simp,by simp,by simp,by simp,by simp,by simp,by simp⟩
 |succ m ih=>
  intro s d c i b hm hs h1 h2 h3 h4
  by_cases he:s.e=0
  ·by_cases hk:(nextT L s).kind=0
   ·exact⟨s,[],[],[],[],by simpa using qP_out hL s d c i b (.inr hk),by simp,by simp,by simp,by simp,by simp,by simp,by simp,by simp⟩
   ·have hp:=mu_pos (L:=L) he
    cases hb0:isB L ⟨#[100,97,116,97]⟩ s with
    |true=>
     obtain⟨b1,b2⟩:=may_in hb0
     obtain⟨v,s1,f1,f2,f3,f4⟩:=data_ok hL (mu L s) s.up b2 (by omega)
     have t1:=take_mu (L:=L) (k:=7) (x:=⟨#[59]⟩) (by decide) s1
     have t2:=take_a (L:=L) (k:=7) (x:=⟨#[59]⟩) (by decide) f2
     obtain⟨s',d',c',i',b',g1,g⟩:=ih (takeS L 7 ⟨#[59]⟩ s1) (d++[v]) c i b (by omega) t2 (by simp;omega) (by omega) (by omega) (by omega)
     have g0:=qP_0 hL s d c i b (by omega) s1 v _ he hk hb0 f1 g1
     rw[List.append_assoc]at g0
     refine⟨s',v::d',c',i',b',g0,?_,fun x hx=>⟨(g.oc x hx).1,by have:=(g.oc x hx).2.1;omega,(g.oc x hx).2.2⟩,g.oi,g.ob,by have:=g.nd;simp;omega,by have:=g.nc;omega,by have:=g.ni;omega,by have:=g.nb;omega⟩
     intro x hx
     rcases List.mem_cons.1 hx with rfl|hx
     ·exact⟨f4.1,by have:=f4.2;omega⟩
     ·exact⟨(g.od x hx).1,by have:=(g.od x hx).2;omega⟩
    |false=>
     cases hb1:isB L ⟨#[99,108,97,115,115]⟩ s with
     |true=>
      obtain⟨b1,b2⟩:=may_in hb1
      obtain⟨v,s1,f1,f2,f3,f4⟩:=class_ok hL hS (mu L s) s.up b2 (by omega)
      have t1:=take_mu (L:=L) (k:=7) (x:=⟨#[59]⟩) (by decide) s1
      have t2:=take_a (L:=L) (k:=7) (x:=⟨#[59]⟩) (by decide) f2
      obtain⟨s',d',c',i',b',g1,g⟩:=ih (takeS L 7 ⟨#[59]⟩ s1) d (c++[v]) i b (by omega) t2 (by omega) (by simp;omega) (by omega) (by omega)
      have g0:=qP_1 hL s d c i b (by omega) s1 v _ he hk hb0 hb1 f1 g1
      rw[List.append_assoc]at g0
      refine⟨s',d',v::c',i',b',g0,fun x hx=>⟨(g.od x hx).1,by have:=(g.od x hx).2;omega⟩,?_,g.oi,g.ob,by have:=g.nd;omega,by have:=g.nc;simp;omega,by have:=g.ni;omega,by have:=g.nb;omega⟩
      intro x hx
      rcases List.mem_cons.1 hx with rfl|hx
      ·exact⟨f4.1,by have:=f4.2.1;omega,f4.2.2⟩
      ·exact⟨(g.oc x hx).1,by have:=(g.oc x hx).2.1;omega,(g.oc x hx).2.2⟩
     |false=>
      cases hb2:isB L ⟨#[105,110,115,116,97,110,99,101]⟩ s with
      |true=>
       obtain⟨b1,b2⟩:=may_in hb2
       obtain⟨v,s1,f1,f2,f3,f4⟩:=inst_ok hL (mu L s) s.up b2 (by omega)
       have t1:=take_mu (L:=L) (k:=7) (x:=⟨#[59]⟩) (by decide) s1
       have t2:=take_a (L:=L) (k:=7) (x:=⟨#[59]⟩) (by decide) f2
       obtain⟨s',d',c',i',b',g1,g⟩:=ih (takeS L 7 ⟨#[59]⟩ s1) d c (i++[v]) b (by omega) t2 (by omega) (by omega) (by simp;omega) (by omega)
       have g0:=qP_2 hL s d c i b (by omega) s1 v _ he hk hb0 hb1 hb2 f1 g1
       rw[List.append_assoc]at g0
       refine⟨s',d',c',v::i',b',g0,fun x hx=>⟨(g.od x hx).1,by have:=(g.od x hx).2;omega⟩,fun x hx=>⟨(g.oc x hx).1,by have:=(g.oc x hx).2.1;omega,(g.oc x hx).2.2⟩,?_,g.ob,by have:=g.nd;omega,by have:=g.nc;omega,by have:=g.ni;simp;omega,by have:=g.nb;omega⟩
       intro x hx
       rcases List.mem_cons.1 hx with rfl|hx
       ·exact f4
       ·exact g.oi x hx
      |false=>
       have q1:=take_mu (L:=L) (k:=6) (x:=⟨#[100,101,102]⟩) (by decide) s
       have q2:=take_a (L:=L) (k:=6) (x:=⟨#[100,101,102]⟩) (by decide) hs
       obtain⟨v,s1,f1,f2,f3,f4⟩:=binds_ok hL (mu L s) (takeS L 6 ⟨#[100,101,102]⟩ s) q2 (by omega)
       have t1:=take_mu (L:=L) (k:=7) (x:=⟨#[59]⟩) (by decide) s1
       have t2:=take_a (L:=L) (k:=7) (x:=⟨#[59]⟩) (by decide) f2
       obtain⟨s',d',c',i',b',g1,g⟩:=ih (takeS L 7 ⟨#[59]⟩ s1) d c i (b++[v]) (by omega) t2 (by omega) (by omega) (by omega) (by simp;omega)
       have g0:=qP_3 hL s d c i b (by omega) s1 v _ he hk hb0 hb1 hb2 f1 g1
       rw[List.append_assoc]at g0
       refine⟨s',d',c',i',v::b',g0,fun x hx=>⟨(g.od x hx).1,by have:=(g.od x hx).2;omega⟩,fun x hx=>⟨(g.oc x hx).1,by have:=(g.oc x hx).2.1;omega,(g.oc x hx).2.2⟩,g.oi,?_,by have:=g.nd;omega,by have:=g.nc;omega,by have:=g.ni;omega,by have:=g.nb;simp;omega⟩
       intro x hx
       rcases List.mem_cons.1 hx with rfl|hx
       ·exact f4
       ·exact g.ob x hx
  ·exact⟨s,[],[],[],[],by simpa using qP_out hL s d c i b (.inl he),by simp,by simp,by simp,by simp,by simp,by simp,by simp,by simp⟩
def PrG(n:Nat)(r:Res):Prop:=∃(k:Nat) (a b c e:PV) (x y:Int) (d:List Dt) (cl:List Cl) (it:List It) (bd:List Bd),r=.ok (k,[a,b,c,e,iv x,iv y])∧wdP a=dts d∧wdP b=cls cl∧wdP c=its it∧wdP e=bds bd∧(a=nilS∧d=[]∨a=dts d)∧(b=nilS∧cl=[]∨b=cls cl)∧(c=nilS∧it=[]∨c=its it)∧(e=nilS∧bd=[]∨e=bds bd)∧PgP n d cl it bd
theorem PrG.nil(n k:Nat)(x y:Int):PrG n (.ok (k,[nilS,nilS,nilS,nilS,iv x,iv y])):=
 ⟨k,nilS,nilS,nilS,nilS,x,y,[],[],[],[],rfl,by simp;rfl,by simp;rfl,by simp;rfl,by simp,.inl ⟨rfl,rfl⟩,.inl ⟨rfl,rfl⟩,.inl ⟨rfl,rfl⟩,.inl ⟨rfl,rfl⟩,by constructor<;>simp⟩
theorem prog_g(hS:L.length≤100000)(s:St)(hs:s.a≤L.length)(x:ByteArray)(hb:ev (q28 (sv x))=some (0,sts L s [])):PrG (mu L s) (body PG EE TT ev (q7 (sv x))):=by
 have hml:=mu_le L s
 obtain⟨s',d,c,i,b,g1,g⟩:=qP_loop hL hS (mu L s) s [] [] [] [] (Nat.le_refl _) hs (by simp;omega) (by simp;omega) (by simp;omega) (by simp;omega)
 simp only[List.nil_append]at g1
 rw[h7,g7]
 match d,c,i,b with
 |[],[],[],[]=>
  simp only[qP,fP]at g1
  simp[hb]
  simp[g1]
  refine bK_ind (fun _=>?_) (fun _=>.nil hL _ _ _ _)
  exact⟨_,_,_,_,_,_,_,_,_,_,_,rfl,by simp;rfl,by simp;rfl,by simp;rfl,by simp,.inl ⟨rfl,rfl⟩,.inl ⟨rfl,rfl⟩,.inl ⟨rfl,rfl⟩,.inl ⟨rfl,rfl⟩,g⟩
 |x0::l0,[],[],[]=>
  simp only[qP,fP]at g1
  simp[hb]
  simp[g1]
  refine bK_ind (fun _=>?_) (fun _=>.nil hL _ _ _ _)
  exact⟨_,_,_,_,_,_,_,_,_,_,_,rfl,by simp,by simp;rfl,by simp;rfl,by simp,.inr rfl,.inl ⟨rfl,rfl⟩,.inl ⟨rfl,rfl⟩,.inl ⟨rfl,rfl⟩,g⟩
 |[],x1::l1,[],[]=>
  simp only[qP,fP]at g1
  simp[hb]
  simp[g1]
  refine bK_ind (fun _=>?_) (fun _=>.nil hL _ _ _ _)
  exact⟨_,_,_,_,_,_,_,_,_,_,_,rfl,by simp;rfl,by simp,by simp;rfl,by simp,.inl ⟨rfl,rfl⟩,.inr rfl,.inl ⟨rfl,rfl⟩,.inl ⟨rfl,rfl⟩,g⟩
 |[],[],x2::l2,[]=>
  simp only[qP,fP]at g1
  simp[hb]
  simp[g1]
  refine bK_ind (fun _=>?_) (fun _=>.nil hL _ _ _ _)
  exact⟨_,_,_,_,_,_,_,_,_,_,_,rfl,by simp;rfl,by simp;rfl,by simp,by simp,.inl ⟨rfl,rfl⟩,.inl ⟨rfl,rfl⟩,.inr rfl,.inl ⟨rfl,rfl⟩,g⟩
 |[],[],[],x3::l3=>
  simp only[qP,fP]at g1
  simp[hb]
  simp[g1]
  refine bK_ind (fun _=>?_) (fun _=>.nil hL _ _ _ _)
  exact⟨_,_,_,_,_,_,_,_,_,_,_,rfl,by simp;rfl,by simp;rfl,by simp;rfl,by simp,.inl ⟨rfl,rfl⟩,.inl ⟨rfl,rfl⟩,.inl ⟨rfl,rfl⟩,.inr rfl,g⟩
 |x0::l0,x1::l1,[],[]=>
  simp only[qP,fP]at g1
  simp[hb]
  simp[g1]
  refine bK_ind (fun _=>?_) (fun _=>.nil hL _ _ _ _)
  exact⟨_,_,_,_,_,_,_,_,_,_,_,rfl,by simp,by simp,by simp;rfl,by simp,.inr rfl,.inr rfl,.inl ⟨rfl,rfl⟩,.inl ⟨rfl,rfl⟩,g⟩
 |x0::l0,[],x2::l2,[]=>
  simp only[qP,fP]at g1
  simp[hb]
  simp[g1]
  refine bK_ind (fun _=>?_) (fun _=>.nil hL _ _ _ _)
  exact⟨_,_,_,_,_,_,_,_,_,_,_,rfl,by simp,by simp;rfl,by simp,by simp,.inr rfl,.inl ⟨rfl,rfl⟩,.inr rfl,.inl ⟨rfl,rfl⟩,g⟩
 |x0::l0,[],[],x3::l3=>
  simp only[qP,fP]at g1
  simp[hb]
  simp[g1]
  refine bK_ind (fun _=>?_) (fun _=>.nil hL _ _ _ _)
  exact⟨_,_,_,_,_,_,_,_,_,_,_,rfl,by simp,by simp;rfl,by simp;rfl,by simp,.inr rfl,.inl ⟨rfl,rfl⟩,.inl ⟨rfl,rfl⟩,.inr rfl,g⟩
 |[],x1::l1,x2::l2,[]=>
  simp only[qP,fP]at g1
  simp[hb]
  simp[g1]
  refine bK_ind (fun _=>?_) (fun _=>.nil hL _ _ _ _)
  exact⟨_,_,_,_,_,_,_,_,_,_,_,rfl,by simp;rfl,by simp,by simp,by simp,.inl ⟨rfl,rfl⟩,.inr rfl,.inr rfl,.inl ⟨rfl,rfl⟩,g⟩
 |[],x1::l1,[],x3::l3=>
  simp only[qP,fP]at g1
  simp[hb]
  simp[g1]
  refine bK_ind (fun _=>?_) (fun _=>.nil hL _ _ _ _)
  exact⟨_,_,_,_,_,_,_,_,_,_,_,rfl,by simp;rfl,by simp,by simp;rfl,by simp,.inl ⟨rfl,rfl⟩,.inr rfl,.inl ⟨rfl,rfl⟩,.inr rfl,g⟩
 |[],[],x2::l2,x3::l3=>
  simp only[qP,fP]at g1
  simp[hb]
  simp[g1]
  refine bK_ind (fun _=>?_) (fun _=>.nil hL _ _ _ _)
  exact⟨_,_,_,_,_,_,_,_,_,_,_,rfl,by simp;rfl,by simp;rfl,by simp,by simp,.inl ⟨rfl,rfl⟩,.inl ⟨rfl,rfl⟩,.inr rfl,.inr rfl,g⟩
 |x0::l0,x1::l1,x2::l2,[]=>
  simp only[qP,fP]at g1
  simp[hb]
  simp[g1]
  refine bK_ind (fun _=>?_) (fun _=>.nil hL _ _ _ _)
  exact⟨_,_,_,_,_,_,_,_,_,_,_,rfl,by simp,by simp,by simp,by simp,.inr rfl,.inr rfl,.inr rfl,.inl ⟨rfl,rfl⟩,g⟩
 |x0::l0,x1::l1,[],x3::l3=>
  simp only[qP,fP]at g1
  simp[hb]
  simp[g1]
  refine bK_ind (fun _=>?_) (fun _=>.nil hL _ _ _ _)
  exact⟨_,_,_,_,_,_,_,_,_,_,_,rfl,by simp,by simp,by simp;rfl,by simp,.inr rfl,.inr rfl,.inl ⟨rfl,rfl⟩,.inr rfl,g⟩
 |x0::l0,[],x2::l2,x3::l3=>
  simp only[qP,fP]at g1
  simp[hb]
  simp[g1]
  refine bK_ind (fun _=>?_) (fun _=>.nil hL _ _ _ _)
  exact⟨_,_,_,_,_,_,_,_,_,_,_,rfl,by simp,by simp;rfl,by simp,by simp,.inr rfl,.inl ⟨rfl,rfl⟩,.inr rfl,.inr rfl,g⟩
 |[],x1::l1,x2::l2,x3::l3=>
  simp only[qP,fP]at g1
  simp[hb]
  simp[g1]
  refine bK_ind (fun _=>?_) (fun _=>.nil hL _ _ _ _)
  exact⟨_,_,_,_,_,_,_,_,_,_,_,rfl,by simp;rfl,by simp,by simp,by simp,.inl ⟨rfl,rfl⟩,.inr rfl,.inr rfl,.inr rfl,g⟩
 |x0::l0,x1::l1,x2::l2,x3::l3=>
  simp only[qP,fP]at g1
  simp[hb]
  simp[g1]
  refine bK_ind (fun _=>?_) (fun _=>.nil hL _ _ _ _)
  exact⟨_,_,_,_,_,_,_,_,_,_,_,rfl,by simp,by simp,by simp,by simp,.inr rfl,.inr rfl,.inr rfl,.inr rfl,g⟩
end
def OneG(b:ByteArray)(i:Nat)(r:Res):Prop:=
 ∃(x:Tk) (j e:Int),r=.ok (0,[iv x.kind,sv x.text,iv x.n,iv x.at_,iv j,iv e])∧(e=0→∃z:Nat,j=z∧i<z∧z≤b.size)
theorem OneG.bad{b:ByteArray}{i:Nat}(k:Int)(t:ByteArray)(n a j e:Int)(he:e≠0):OneG b i (.ok (0,[iv k,sv t,iv n,iv a,iv j,iv e])):=⟨⟨k,t,n,a⟩,j,e,rfl,fun h=>absurd h he⟩
theorem OneG.good{b:ByteArray}{i:Nat}(k:Int)(t:ByteArray)(n a:Int){z:Nat}(h1:i<z)(h2:z≤b.size):OneG b i (.ok (0,[iv k,sv t,iv n,iv a,iv (z:Int),iv 0])):=⟨⟨k,t,n,a⟩,z,0,rfl,fun _=>⟨z,rfl,h1,h2⟩⟩
theorem OneG.bK{b:ByteArray}{i:Nat}{c:Bool}{x y:Res}(h1:OneG b i x)(h2:OneG b i y):OneG b i (bK c x y):=by cases c<;>assumption
theorem zero_l(b:ByteArray)(hb:b.size≤1000000)(y:Nat)(hy:y≤b.size)(a:Int):∀(m i:Nat),y-i≤m→i<y→∃z:Nat,ev (q100b0a (iv i) (iv y) (sv b) (iv a))=some (0,[iv 0,sv eB,iv 0,iv a,iv 0,sv eB,iv 0,iv 0,sv b,iv z,iv y])∧z≤y:=by
 intro m
 induction m with
 |zero=>intro i h1 h2;omega
 |succ m ih=>
  intro i hm hi
  have e0:IntKind.i64.wrap ((y:Int)-1)=(y:Int)-1:=wrap_id (by omega)
  by_cases h1:(i:Int)<(y:Int)-1
  ·have hx:=fun(k:AV→Res)=>indS (d:=Res.fail) (k:=k) (s:=b) (i:=i) (by omega)
   obtain⟨j,hj⟩:∃j,j=i+1:=⟨_,rfl⟩
   have e1:=wone hj (by omega)
   by_cases h2:byt b i=48
   ·obtain⟨z,g,g1⟩:=ih j (by omega) (by omega)
    exact⟨z,Evl.of (by rw[h100b0a,g100b0a];simp[e0,h1,hx,h2,e1,g]),g1⟩
   ·exact⟨i,Evl.of (by rw[h100b0a,g100b0a];simp[e0,h1,hx,h2]),by omega⟩
  ·exact⟨i,Evl.of (by rw[h100b0a,g100b0a];simp[e0,h1]),by omega⟩
theorem one_ok(b:ByteArray)(hb:b.size≤1000000)(i:Nat)(hi:i<b.size):OneG b i (body PG EE TT ev (q100 (sv b) (iv i))):=by
 have hx:=fun(k:AV→Res)=>indS (d:=Res.fail) (k:=k) hi
 rw[h100,g100]
 by_cases h1:byt b i=34
 ·obtain⟨t,j,c,g,g1⟩:=text_ok b hb i hi
  simp[hx,h1]
  cases c with
  |true=>simp[g];exact .good _ _ _ _ (g1 rfl).1 (g1 rfl).2
  |false=>simp[g];exact .bad _ _ _ _ _ _ (by decide)
 ·simp[hx,h1]
  obtain⟨c,hc⟩:∃c,byt b i=c:=⟨_,rfl⟩
  rw[hc]
  have d0:=digit_m c
  cases hd:bo (q127 (cv c)) with
  |true=>
   rw[hd]at d0
   obtain⟨j,g,g1,g2⟩:=end_d b hb i hi (by rw[hc];exact hd)
   obtain⟨z,f,f1⟩:=zero_l b hb j g2 i _ i (Nat.le_refl _) g1
   have hs:=fun(k:AV→Res)=>slcS (d:=Res.fail) (k:=k) f1 g2
   obtain⟨t,ht⟩:∃t,t=b.extract z j:=⟨_,rfl⟩
   rw[←ht]at hs
   obtain⟨v,e,p⟩:=parse_ok t (by rw[ht];simp;omega)
   simp[d0,g]
   simp[f]
   simp[hs]
   by_cases he:e=0
   ·simp[p,he]
    exact .good _ _ _ _ g1 g2
   ·simp[p,he]
    exact .bad _ _ _ _ _ _ (by decide)
  |false=>
   rw[hd]at d0
   obtain⟨w,hw⟩:∃w,w=i+1:=⟨_,rfl⟩
   have e1:=wone hw (by omega)
   simp[d0,e1]
   have s0:=small_m c
   have r0:=great_m c
   have n0:=sign_m c
   cases hs:bo (q130 (cv c)) with
   |true=>
    rw[hs]at s0
    obtain⟨j,g,g1,g2⟩:=end_n b hb i hi (by rw[hc];exact name_small c hs)
    have hy:=fun(k:AV→Res)=>slcS (d:=Res.fail) (k:=k) (Nat.le_of_lt g1) g2
    obtain⟨t,ht⟩:∃t,t=b.extract i j:=⟨_,rfl⟩
    rw[←ht]at hy
    simp[s0,g]
    simp[hy]
    simp[r0,n0,key_m,mark_m]
    repeat (first|exact .bad _ _ _ _ _ _ (by decide)|exact .good _ _ _ _ (by omega) (by omega)|refine .bK ?_ ?_|refine .ite ?_ ?_)
   |false=>
    rw[hs]at s0
    simp[s0]
    cases hr:bo (q131 (cv c)) with
    |true=>
     rw[hr]at r0
     obtain⟨j,g,g1,g2⟩:=end_n b hb i hi (by rw[hc];exact name_great c hr)
     have hy:=fun(k:AV→Res)=>slcS (d:=Res.fail) (k:=k) (Nat.le_of_lt g1) g2
     obtain⟨t,ht⟩:∃t,t=b.extract i j:=⟨_,rfl⟩
     rw[←ht]at hy
     simp[r0,g]
     simp[hy]
     simp[n0,key_m,mark_m]
     repeat (first|exact .bad _ _ _ _ _ _ (by decide)|exact .good _ _ _ _ (by omega) (by omega)|refine .bK ?_ ?_|refine .ite ?_ ?_)
    |false=>
     rw[hr]at r0
     simp[r0]
     cases hn:bo (q132 (cv c)) with
     |true=>
      rw[hn]at n0
      obtain⟨j,g,g1,g2⟩:=end_s b hb i hi (by rw[hc];exact hn)
      have hy:=fun(k:AV→Res)=>slcS (d:=Res.fail) (k:=k) (Nat.le_of_lt g1) g2
      obtain⟨t,ht⟩:∃t,t=b.extract i j:=⟨_,rfl⟩
      rw[←ht]at hy
      simp[n0,g]
      simp[hy]
      simp[key_m,mark_m]
      repeat (first|exact .bad _ _ _ _ _ _ (by decide)|exact .good _ _ _ _ (by omega) (by omega)|refine .bK ?_ ?_|refine .ite ?_ ?_)
     |false=>
      rw[hn]at n0
      have hy:=fun(k:AV→Res)=>slcS (d:=Res.fail) (k:=k) (s:=b) (l:=i) (m:=w) (by omega) (by omega)
      obtain⟨t,ht⟩:∃t,t=b.extract i w:=⟨_,rfl⟩
      rw[←ht]at hy
      simp[n0,hy]
      simp[key_m,mark_m]
      repeat (first|exact .bad _ _ _ _ _ _ (by decide)|exact .good _ _ _ _ (by omega) (by omega)|refine .bK ?_ ?_|refine .ite ?_ ?_)
theorem raw_tk(l:List Tk):Raw 4 (l.map Tk.cells) (l.map Tk.cells):=.of l (fun x=>by simp[Tk.cells]) (fun x=>rfl) (fun x=>by simp[Tk.cells])
theorem appK_tks(l:List Tk)(x:Tk)(k:PV→Res)(hl:l.length≤3000000):appK PG .fail 65 (.pv (.rows (l.map Tk.cells))) (.pv (.rows [[iv x.kind,sv x.text,iv x.n,iv x.at_]])) k=k (.rows ((l++[x]).map Tk.cells)):=by
 rw[appK_raw (P:=PG) (d:=.fail) sl_tks (raw_tk l) (c:=[iv x.kind,sv x.text,iv x.n,iv x.at_]) rfl (by simp) (by simp;omega) (by decide)]
 simp[Tk.cells]
theorem scan_lb(b:ByteArray)(hb:b.size≤1000000):∀(m i:Nat) (l:List Tk),b.size-i≤m→i≤b.size→l.length+m≤2000000→
  (∃e w:Int,ev (q65b0b (iv i) (sv b) (l.map Tk.cells))=some (0,[nL,iv e,iv w]))∨∃l':List Tk,ev (q65b0b (iv i) (sv b) (l.map Tk.cells))=some (2,[.rows ((l++l').map Tk.cells),sv b])∧l'.length≤b.size-i:=by
 intro m
 induction m with
 |zero=>
  intro i l hi hs hl
  exact .inr ⟨[],Evl.of (by rw[h65b0b,g65b0b];simp[show ¬(i:Int)<(b.size:Int) by omega]),by simp⟩
 |succ m ih=>
  intro i l hi hs hl
  by_cases h1:i<b.size
  ·have h1':(i:Int)<(b.size:Int):=by omega
   obtain⟨x,j,e,g,g1⟩:=one_ok b hb i h1
   have g:=Evl.of g
   by_cases he:e=0
   ·obtain⟨z,hz,z1,z2⟩:=g1 he
    rw[he,hz]at g
    obtain⟨y,f,f1,f2⟩:=over_ok b hb z z2
    have hp:body PG EE TT ev (q65b0b (iv i) (sv b) (l.map Tk.cells))=passK (ev (q65b0b (iv y) (sv b) ((l++[x]).map Tk.cells))):=by
     rw[h65b0b,g65b0b]
     simp[h1']
     simp[g]
     simp only[appK_tks l x _ (by omega)]
     simp[f]
     try rfl
    rcases ih y (l++[x]) (by omega) f2 (by simp;omega) with⟨e,w,hr⟩|⟨l',hr,hl'⟩
    ·exact .inl ⟨e,w,pass_to hp hr⟩
    ·exact .inr ⟨x::l',pass_to hp (by rw[hr];simp),by simp;omega⟩
   ·exact .inl ⟨e,i,Evl.of (by rw[h65b0b,g65b0b];simp[h1'];simp[g,he])⟩
  ·exact .inr ⟨[],Evl.of (by rw[h65b0b,g65b0b];simp[show ¬(i:Int)<(b.size:Int) by omega]),by simp⟩
theorem scan_la(b:ByteArray)(hb:b.size≤1000000)(i:Nat)(hi:i≤b.size) :
  (∃e w:Int,ev (q65b0a (iv i) (sv b))=some (0,[nL,iv e,iv w]))∨ev (q65b0a (iv i) (sv b))=some (1,[nL,sv b])∨∃l':List Tk,ev (q65b0a (iv i) (sv b))=some (2,[.rows (l'.map Tk.cells),sv b])∧l'.length≤b.size-i:=by
 by_cases h1:i<b.size
 ·have h1':(i:Int)<(b.size:Int):=by omega
  obtain⟨x,j,e,g,g1⟩:=one_ok b hb i h1
  have g:=Evl.of g
  by_cases he:e=0
  ·obtain⟨z,hz,z1,z2⟩:=g1 he
   rw[he,hz]at g
   obtain⟨y,f,f1,f2⟩:=over_ok b hb z z2
   have hp:body PG EE TT ev (q65b0a (iv i) (sv b))=passK (ev (q65b0b (iv y) (sv b) ([x].map Tk.cells))):=by
    rw[h65b0a,g65b0a]
    simp[h1']
    simp[g]
    simp[f]
    try rfl
   rcases scan_lb b hb _ y [x] (Nat.le_refl _) f2 (by simp;omega) with⟨e,w,hr⟩|⟨l',hr,hl'⟩
   ·exact .inl ⟨e,w,pass_to hp hr⟩
   ·exact .inr (.inr ⟨x::l',pass_to hp hr,by simp;omega⟩)
  ·exact .inl ⟨e,i,Evl.of (by rw[h65b0a,g65b0a];simp[h1'];simp[g,he])⟩
 ·exact .inr (.inl (Evl.of (by rw[h65b0a,g65b0a];simp[show ¬(i:Int)<(b.size:Int) by omega])))
theorem scan_ok(b:ByteArray):∃(L:List Tk) (k:Nat) (p:PV) (e w:Int),ev (q65 (sv b))=some (k,[p,iv e,iv w])∧wkP p=tks L∧L.length≤b.size+1∧L.length≤60001:=by
 by_cases h0:60000<(b.size:Int)
 ·have h0':60000<b.size:=by omega
  exact⟨[],0,nL,3,0,Evl.of (by rw[h65,g65];simp[h0,h0']),rfl,by simp,by simp⟩
 ·have h0':¬60000<b.size:=by omega
  have hb:b.size≤1000000:=by omega
  obtain⟨y,gy⟩:=bad_ok b hb
  by_cases h1:0≤y
  ·exact⟨[],0,nL,100,y,Evl.of (by rw[h65,g65];simp[h0,h0'];simp[gy,h1]),rfl,by simp,by simp⟩
  ·obtain⟨z,f,f1,f2⟩:=over_ok b hb 0 (by omega)
   have f:ev (q99 (sv b) (iv 0))=_:=f
   rcases scan_la b hb z f2 with⟨e,w,g⟩|g|⟨l,g,hl⟩
   ·exact⟨[],0,nL,e,w,Evl.of (by rw[h65,g65];simp[h0,h0'];simp[gy,h1];simp[f];simp[g]),rfl,by simp,by simp⟩
   ·exact⟨[(⟨0,eB,0,b.size⟩:Tk)],1,_,0,0,Evl.of (by rw[h65,g65];simp[h0,h0'];simp[gy,h1];simp[f];simp[g];rfl),rfl,by simp,by simp⟩
   ·refine⟨l++[(⟨0,eB,0,b.size⟩:Tk)],1,.rows ((l++[(⟨0,eB,0,b.size⟩:Tk)]).map Tk.cells),0,0,Evl.of ?_,rfl,by simp;omega,by simp;omega⟩
    have ha:=fun(k:PV→Res)=>appK_tks l (⟨0,eB,0,b.size⟩:Tk) k (by omega)
    simp only[eB]at ha
    rw[h65,g65]
    simp[h0,h0']
    simp[gy,h1]
    simp[f]
    simp[g]
    simp only[ha]
    simp
theorem scan_w(b:ByteArray):∃(L:List Tk) (e w:Int),ev (q65w (sv b))=some (0,[tks L,iv e,iv w])∧L.length≤b.size+1∧L.length≤60001:=by
 obtain⟨L,k,p,e,w,g,h1,h2⟩:=scan_ok b
 exact⟨L,e,w,Evl.of (by rw[h65w];simp[g,h1]),h2⟩
theorem begin_ok(b:ByteArray):∃(L:List Tk) (s:St),ev (q28 (sv b))=some (0,sts L s [])∧s.a=0∧L.length≤b.size+1∧L.length≤60001:=by
 obtain⟨L,e,w,g,h1,h2⟩:=scan_w b
 by_cases he:e=0
 ·exact⟨L,⟨0,0,0,0⟩,Evl.of (by rw[h28,g28];simp[g];simp[he]),rfl,h1,h2⟩
 ·refine⟨L,⟨0,0,e,w⟩,Evl.of ?_,rfl,h1,h2⟩
  have f:=fail_ok (L:=L) e w ⟨0,0,0,0⟩
  simp[failS]at f
  rw[h28,g28]
  simp[g]
  simp[he,f]
theorem PgP.mono{n m:Nat}(h:n≤m){d:List Dt}{c:List Cl}{i:List It}{b:List Bd}(g:PgP n d c i b):PgP m d c i b:=
 ⟨fun x hx=>⟨(g.od x hx).1,by have:=(g.od x hx).2;omega⟩,fun x hx=>⟨(g.oc x hx).1,by have:=(g.oc x hx).2.1;omega,(g.oc x hx).2.2⟩,g.oi,g.ob,by have:=g.nd;omega,by have:=g.nc;omega,by have:=g.ni;omega,by have:=g.nb;omega⟩
theorem PrG.mono{n m:Nat}(h:n≤m){r:Res}(g:PrG n r):PrG m r:=by
 obtain⟨k,a,b,c,e,x,y,d,cl,it,bd,h1,h2,h3,h4,h5,h6,h7,h8,h9,h10⟩:=g
 exact⟨k,a,b,c,e,x,y,d,cl,it,bd,h1,h2,h3,h4,h5,h6,h7,h8,h9,h10.mono h⟩
theorem prog_ok(b:ByteArray):PrG (b.size+2) (body PG EE TT ev (q7 (sv b))):=by
 obtain⟨L,s,g,h1,h2,h3⟩:=begin_ok b
 exact(prog_g (L:=L) (by omega) (by omega) s (by omega) b g).mono (by have:=mu_le L s;omega)
theorem same_loop{α:Type}(l:List α)(q:Nat→Q)(r:Rs)(hl:l.length≤maxN)
  (hs:∀(i j:Nat) (x:α),IntKind.i64.wrap ((i:Int)+1)=(j:Int)→l[i]?=some x→(i:Int)<(l.length:Int)→x∈l→body PG EE TT ev (q i)=passK (ev (q j)))
  (he:body PG EE TT ev (q l.length)=.ok r):ev (q 0)=some r:=by
 have h:∀(m i:Nat),i+m=l.length→ev (q i)=some r:=by
  intro m
  induction m with
  |zero=>intro i hi;rw[Nat.add_zero]at hi;rw[hi];exact Evl.of he
  |succ m ih=>
   intro i hi
   have hi':i<l.length:=by omega
   obtain⟨j,hj⟩:∃j,j=i+1:=⟨_,rfl⟩
   exact Evl.of (by rw[hs i j l[i] (by rw[wrap_id (by unfold maxN at hl;omega)];omega) (lGg hi') (by omega) (List.getElem_mem hi'),ih j (by omega)];rfl)
 exact h l.length 0 (by omega)
theorem texts_same(l:List ByteArray)(hl:l.length≤maxN):ev (q25 (strs l) (strs l))=some (0,[bv true]):=by
 have lp:ev (q25b0a (iv 0) (strs l) (strs l))=some (1,[]):=same_loop l (fun i0=>q25b0a (iv (i0:Int)) (strs l) (strs l)) (1,[]) (by assumption) (fun i0 j0 x e0 hx hi0 hm=>by
   show body PG EE TT ev (q25b0a (iv (i0:Int)) (strs l) (strs l))=passK (ev (q25b0a (iv (j0:Int)) (strs l) (strs l)))
   rw[h25b0a,g25b0a]
   simp[hi0,idxK_strs hx]
   skip
   simp[e0]) (by
   show body PG EE TT ev (q25b0a (iv (l.length:Int)) (strs l) (strs l))=_
   rw[h25b0a,g25b0a]
   simp)
 exact Evl.of (by rw[h25,g25];simp[lp])
def SamT(t:Ty):Prop:=ev (q89 (iv t.kind) (sv t.name) (iv t.n) (tys t.kids) (iv t.kind) (sv t.name) (iv t.n) (tys t.kids))=some (0,[bv true])
theorem types_same(l:List Ty)(hl:l.length≤maxN)(h:∀x∈l,SamT x):ev (q88 (tys l) (tys l))=some (0,[bv true]):=by
 have lp:ev (q88b0a (iv 0) (tys l) (tys l))=some (1,[]):=same_loop l (fun i0=>q88b0a (iv (i0:Int)) (tys l) (tys l)) (1,[]) (by assumption) (fun i0 j0 x e0 hx hi0 hm=>by
   show body PG EE TT ev (q88b0a (iv (i0:Int)) (tys l) (tys l))=passK (ev (q88b0a (iv (j0:Int)) (tys l) (tys l)))
   rw[h88b0a,g88b0a]
   simp[hi0,idxK_tys hx]
   have g:=h x hm;unfold SamT at g;simp[g]
   simp[e0]) (by
   show body PG EE TT ev (q88b0a (iv (l.length:Int)) (tys l) (tys l))=_
   rw[h88b0a,g88b0a]
   simp)
 exact Evl.of (by rw[h88,g88];simp[lp])
theorem type_same{t:Ty}(h:t.Ok):SamT t:=by
 induction h with
 |mk k s n ks hl hk ih=>
  have g:=types_same ks hl ih
  exact Evl.of (by rw[h89,g89];simp[Ty.kind,Ty.name,Ty.n,Ty.kids,g])
def SamP(p:Pt):Prop:=ev (q122 (iv p.kind) (sv p.name) (iv p.n) (pts p.kids) (iv p.at_) (iv p.kind) (sv p.name) (iv p.n) (pts p.kids) (iv p.at_))=some (0,[bv true])
theorem pat_same{p:Pt}(h:p.Ok):SamP p:=by
 induction h with
 |mk k s n ks a hl hk ih=>
  have lp:ev (q122b0a (iv 0) (iv k) (sv s) (iv n) (pts ks) (iv a) (iv k) (sv s) (iv n) (pts ks) (iv a))=some (1,[iv k,sv s,iv n,pts ks,iv a,iv k,sv s,iv n,pts ks,iv a]):=same_loop ks (fun i0=>q122b0a (iv (i0:Int)) (iv k) (sv s) (iv n) (pts ks) (iv a) (iv k) (sv s) (iv n) (pts ks) (iv a)) (1,[iv k,sv s,iv n,pts ks,iv a,iv k,sv s,iv n,pts ks,iv a]) (by assumption) (fun i0 j0 x e0 hx hi0 hm=>by
   show body PG EE TT ev (q122b0a (iv (i0:Int)) (iv k) (sv s) (iv n) (pts ks) (iv a) (iv k) (sv s) (iv n) (pts ks) (iv a))=passK (ev (q122b0a (iv (j0:Int)) (iv k) (sv s) (iv n) (pts ks) (iv a) (iv k) (sv s) (iv n) (pts ks) (iv a)))
   rw[h122b0a,g122b0a]
   simp[hi0,idxK_pts hx]
   have g:=ih x hm;unfold SamP at g;simp[g]
   simp[e0]) (by
   show body PG EE TT ev (q122b0a (iv (ks.length:Int)) (iv k) (sv s) (iv n) (pts ks) (iv a) (iv k) (sv s) (iv n) (pts ks) (iv a))=_
   rw[h122b0a,g122b0a]
   simp)
  exact Evl.of (by rw[h122,g122];simp[Pt.kind,Pt.name,Pt.n,Pt.kids,Pt.at_,lp])
def SamE(e:Ex):Prop:=ev (q90 (iv e.kind) (sv e.name) (iv e.n) (iv e.t.kind) (sv e.t.name) (iv e.t.n) (tys e.t.kids) (exs e.kids) (als e.alts) (bds e.binds) (iv e.at_) (iv e.kind) (sv e.name) (iv e.n) (iv e.t.kind) (sv e.t.name) (iv e.t.n) (tys e.t.kids) (exs e.kids) (als e.alts) (bds e.binds) (iv e.at_))=some (0,[bv true])
theorem binds_same(l:List Bd)(hl:l.length≤maxN)(h:∀x∈l,SamE x.e):ev (q49 (bds l) (bds l))=some (0,[bv true]):=by
 have lp:ev (q49b0a (iv 0) (bds l) (bds l))=some (1,[]):=same_loop l (fun i0=>q49b0a (iv (i0:Int)) (bds l) (bds l)) (1,[]) (by assumption) (fun i0 j0 x e0 hx hi0 hm=>by
   show body PG EE TT ev (q49b0a (iv (i0:Int)) (bds l) (bds l))=passK (ev (q49b0a (iv (j0:Int)) (bds l) (bds l)))
   rw[h49b0a,g49b0a]
   simp[hi0,idxK_bds hx]
   have g:=h x hm;unfold SamE at g;simp[g]
   simp[e0]) (by
   show body PG EE TT ev (q49b0a (iv (l.length:Int)) (bds l) (bds l))=_
   rw[h49b0a,g49b0a]
   simp)
 exact Evl.of (by rw[h49,g49];simp[lp])
theorem ex_step(e:Ex)(h0:e.t.Ok)(l1:e.kids.length≤maxN)(h1:∀x∈e.kids,SamE x)(l2:e.alts.length≤maxN)(h2:∀x∈e.alts,SamP x.p∧SamE x.e)(l3:e.binds.length≤maxN)(h3:∀x∈e.binds,SamE x.e):SamE e:=by
 have g0:=type_same h0
 unfold SamT at g0
 have g3:=binds_same e.binds l3 h3
 have k1:ev (q90b0a (iv 0) (iv e.kind) (sv e.name) (iv e.n) (iv e.t.kind) (sv e.t.name) (iv e.t.n) (tys e.t.kids) (exs e.kids) (als e.alts) (bds e.binds) (iv e.at_) (iv e.kind) (sv e.name) (iv e.n) (iv e.t.kind) (sv e.t.name) (iv e.t.n) (tys e.t.kids) (exs e.kids) (als e.alts) (bds e.binds) (iv e.at_))=some (1,[iv e.kind,sv e.name,iv e.n,iv e.t.kind,sv e.t.name,iv e.t.n,tys e.t.kids,exs e.kids,als e.alts,bds e.binds,iv e.at_,iv e.kind,sv e.name,iv e.n,iv e.t.kind,sv e.t.name,iv e.t.n,tys e.t.kids,exs e.kids,als e.alts,bds e.binds,iv e.at_]):=same_loop e.kids (fun i0=>q90b0a (iv (i0:Int)) (iv e.kind) (sv e.name) (iv e.n) (iv e.t.kind) (sv e.t.name) (iv e.t.n) (tys e.t.kids) (exs e.kids) (als e.alts) (bds e.binds) (iv e.at_) (iv e.kind) (sv e.name) (iv e.n) (iv e.t.kind) (sv e.t.name) (iv e.t.n) (tys e.t.kids) (exs e.kids) (als e.alts) (bds e.binds) (iv e.at_)) (1,[iv e.kind,sv e.name,iv e.n,iv e.t.kind,sv e.t.name,iv e.t.n,tys e.t.kids,exs e.kids,als e.alts,bds e.binds,iv e.at_,iv e.kind,sv e.name,iv e.n,iv e.t.kind,sv e.t.name,iv e.t.n,tys e.t.kids,exs e.kids,als e.alts,bds e.binds,iv e.at_]) (by assumption) (fun i0 j0 x e0 hx hi0 hm=>by
   show body PG EE TT ev (q90b0a (iv (i0:Int)) (iv e.kind) (sv e.name) (iv e.n) (iv e.t.kind) (sv e.t.name) (iv e.t.n) (tys e.t.kids) (exs e.kids) (als e.alts) (bds e.binds) (iv e.at_) (iv e.kind) (sv e.name) (iv e.n) (iv e.t.kind) (sv e.t.name) (iv e.t.n) (tys e.t.kids) (exs e.kids) (als e.alts) (bds e.binds) (iv e.at_))=passK (ev (q90b0a (iv (j0:Int)) (iv e.kind) (sv e.name) (iv e.n) (iv e.t.kind) (sv e.t.name) (iv e.t.n) (tys e.t.kids) (exs e.kids) (als e.alts) (bds e.binds) (iv e.at_) (iv e.kind) (sv e.name) (iv e.n) (iv e.t.kind) (sv e.t.name) (iv e.t.n) (tys e.t.kids) (exs e.kids) (als e.alts) (bds e.binds) (iv e.at_)))
   rw[h90b0a,g90b0a]
   simp[hi0,idxK_exs hx]
   have g:=h1 x hm;unfold SamE at g;simp[g]
   simp[e0]) (by
   show body PG EE TT ev (q90b0a (iv (e.kids.length:Int)) (iv e.kind) (sv e.name) (iv e.n) (iv e.t.kind) (sv e.t.name) (iv e.t.n) (tys e.t.kids) (exs e.kids) (als e.alts) (bds e.binds) (iv e.at_) (iv e.kind) (sv e.name) (iv e.n) (iv e.t.kind) (sv e.t.name) (iv e.t.n) (tys e.t.kids) (exs e.kids) (als e.alts) (bds e.binds) (iv e.at_))=_
   rw[h90b0a,g90b0a]
   simp)
 have k2:ev (q90b2a (iv 0) (iv e.kind) (sv e.name) (iv e.n) (iv e.t.kind) (sv e.t.name) (iv e.t.n) (tys e.t.kids) (exs e.kids) (als e.alts) (bds e.binds) (iv e.at_) (iv e.kind) (sv e.name) (iv e.n) (iv e.t.kind) (sv e.t.name) (iv e.t.n) (tys e.t.kids) (exs e.kids) (als e.alts) (bds e.binds) (iv e.at_))=some (1,[iv e.kind,sv e.name,iv e.n,iv e.t.kind,sv e.t.name,iv e.t.n,tys e.t.kids,exs e.kids,als e.alts,bds e.binds,iv e.at_,iv e.kind,sv e.name,iv e.n,iv e.t.kind,sv e.t.name,iv e.t.n,tys e.t.kids,exs e.kids,als e.alts,bds e.binds,iv e.at_]):=same_loop e.alts (fun i0=>q90b2a (iv (i0:Int)) (iv e.kind) (sv e.name) (iv e.n) (iv e.t.kind) (sv e.t.name) (iv e.t.n) (tys e.t.kids) (exs e.kids) (als e.alts) (bds e.binds) (iv e.at_) (iv e.kind) (sv e.name) (iv e.n) (iv e.t.kind) (sv e.t.name) (iv e.t.n) (tys e.t.kids) (exs e.kids) (als e.alts) (bds e.binds) (iv e.at_)) (1,[iv e.kind,sv e.name,iv e.n,iv e.t.kind,sv e.t.name,iv e.t.n,tys e.t.kids,exs e.kids,als e.alts,bds e.binds,iv e.at_,iv e.kind,sv e.name,iv e.n,iv e.t.kind,sv e.t.name,iv e.t.n,tys e.t.kids,exs e.kids,als e.alts,bds e.binds,iv e.at_]) (by assumption) (fun i0 j0 x e0 hx hi0 hm=>by
   show body PG EE TT ev (q90b2a (iv (i0:Int)) (iv e.kind) (sv e.name) (iv e.n) (iv e.t.kind) (sv e.t.name) (iv e.t.n) (tys e.t.kids) (exs e.kids) (als e.alts) (bds e.binds) (iv e.at_) (iv e.kind) (sv e.name) (iv e.n) (iv e.t.kind) (sv e.t.name) (iv e.t.n) (tys e.t.kids) (exs e.kids) (als e.alts) (bds e.binds) (iv e.at_))=passK (ev (q90b2a (iv (j0:Int)) (iv e.kind) (sv e.name) (iv e.n) (iv e.t.kind) (sv e.t.name) (iv e.t.n) (tys e.t.kids) (exs e.kids) (als e.alts) (bds e.binds) (iv e.at_) (iv e.kind) (sv e.name) (iv e.n) (iv e.t.kind) (sv e.t.name) (iv e.t.n) (tys e.t.kids) (exs e.kids) (als e.alts) (bds e.binds) (iv e.at_)))
   rw[h90b2a,g90b2a]
   simp[hi0,idxK_als hx]
   obtain⟨g,g2⟩:=h2 x hm;unfold SamP at g;unfold SamE at g2;simp[g,g2]
   simp[e0]) (by
   show body PG EE TT ev (q90b2a (iv (e.alts.length:Int)) (iv e.kind) (sv e.name) (iv e.n) (iv e.t.kind) (sv e.t.name) (iv e.t.n) (tys e.t.kids) (exs e.kids) (als e.alts) (bds e.binds) (iv e.at_) (iv e.kind) (sv e.name) (iv e.n) (iv e.t.kind) (sv e.t.name) (iv e.t.n) (tys e.t.kids) (exs e.kids) (als e.alts) (bds e.binds) (iv e.at_))=_
   rw[h90b2a,g90b2a]
   simp)
 exact Evl.of (by
  rw[h90,g90]
  simp
  simp[g0]
  simp[g3]
  simp[k1]
  simp[k2])
mutual
theorem ex_same:∀(e:Ex),e.Ok→SamE e
 |.mk k s n t ks xs bs a,h=>by
  rw[Ex.Ok]at h
  exact ex_step (.mk k s n t ks xs bs a) h.1 h.2.1.1 (ex_sameL ks h.2.1.2) h.2.2.1.1 (al_sameL xs h.2.2.1.2) h.2.2.2.1 (bd_sameL bs h.2.2.2.2)
theorem ex_sameL:∀(l:List Ex),Ex.OkL l→∀x∈l,SamE x
 |[],_,x,hx=>by cases hx
 |y::l,h,x,hx=>by
  rw[Ex.OkL]at h
  exact(List.mem_cons.1 hx).elim (fun e=>e ▸ ex_same y h.1) (fun hx=>ex_sameL l h.2 x hx)
theorem al_sameL:∀(l:List Al),Al.OkL l→∀x∈l,SamP x.p∧SamE x.e
 |[],_,x,hx=>by cases hx
 |.mk p e::l,h,x,hx=>by
  rw[Al.OkL,Al.Ok]at h
  exact(List.mem_cons.1 hx).elim (fun q=>q ▸ ⟨pat_same h.1.1,ex_same e h.1.2⟩) (fun hx=>al_sameL l h.2 x hx)
theorem bd_sameL:∀(l:List Bd),Bd.OkL l→∀x∈l,SamE x.e
 |[],_,x,hx=>by cases hx
 |.mk s e a::l,h,x,hx=>by
  rw[Bd.OkL,Bd.Ok]at h
  exact(List.mem_cons.1 hx).elim (fun q=>q ▸ ex_same e h.1) (fun hx=>bd_sameL l h.2 x hx)
end
theorem bd_same{b:Bd}(h:b.Ok):SamE b.e:=by
 cases b with
 |mk s e a=>rw[Bd.Ok]at h;exact ex_same e h
theorem data_same{v:Dt}(h:v.Ok):ev (q46 (sv v.name) (strs v.params) (cns v.cons) (strs v.deriv) (iv v.at_) (sv v.name) (strs v.params) (cns v.cons) (strs v.deriv) (iv v.at_))=some (0,[bv true]):=by
 obtain⟨h1,⟨h2,h3⟩,h4⟩:=h
 have g1:=texts_same v.params h1
 have g2:=texts_same v.deriv h4
 have lp:ev (q46b0a (iv 0) (sv v.name) (strs v.params) (cns v.cons) (strs v.deriv) (iv v.at_) (sv v.name) (strs v.params) (cns v.cons) (strs v.deriv) (iv v.at_))=some (1,[sv v.name,strs v.params,cns v.cons,strs v.deriv,iv v.at_,sv v.name,strs v.params,cns v.cons,strs v.deriv,iv v.at_]):=same_loop v.cons (fun i0=>q46b0a (iv (i0:Int)) (sv v.name) (strs v.params) (cns v.cons) (strs v.deriv) (iv v.at_) (sv v.name) (strs v.params) (cns v.cons) (strs v.deriv) (iv v.at_)) (1,[sv v.name,strs v.params,cns v.cons,strs v.deriv,iv v.at_,sv v.name,strs v.params,cns v.cons,strs v.deriv,iv v.at_]) (by assumption) (fun i0 j0 x e0 hx hi0 hm=>by
   show body PG EE TT ev (q46b0a (iv (i0:Int)) (sv v.name) (strs v.params) (cns v.cons) (strs v.deriv) (iv v.at_) (sv v.name) (strs v.params) (cns v.cons) (strs v.deriv) (iv v.at_))=passK (ev (q46b0a (iv (j0:Int)) (sv v.name) (strs v.params) (cns v.cons) (strs v.deriv) (iv v.at_) (sv v.name) (strs v.params) (cns v.cons) (strs v.deriv) (iv v.at_)))
   rw[h46b0a,g46b0a]
   simp[hi0,idxK_cns hx]
   have g:=types_same x.args (h3 x hm).1 (fun y hy=>type_same ((h3 x hm).2 y hy));simp[g]
   simp[e0]) (by
   show body PG EE TT ev (q46b0a (iv (v.cons.length:Int)) (sv v.name) (strs v.params) (cns v.cons) (strs v.deriv) (iv v.at_) (sv v.name) (strs v.params) (cns v.cons) (strs v.deriv) (iv v.at_))=_
   rw[h46b0a,g46b0a]
   simp)
 exact Evl.of (by
  rw[h46,g46]
  simp
  simp[g1]
  simp[g2]
  simp[lp])
theorem class_same{v:Cl}(h:v.Ok):ev (q47 (sv v.name) (sv v.var) (strs v.supers) (mds v.methods) (bds v.defaults) (iv v.at_) (sv v.name) (sv v.var) (strs v.supers) (mds v.methods) (bds v.defaults) (iv v.at_))=some (0,[bv true]):=by
 obtain⟨h1,⟨h2,h3⟩,h4,h5⟩:=h
 have g1:=texts_same v.supers h1
 have g2:=binds_same v.defaults h4 (fun x hx=>bd_same (h5 x hx))
 have lp:ev (q47b0a (iv 0) (sv v.name) (sv v.var) (strs v.supers) (mds v.methods) (bds v.defaults) (iv v.at_) (sv v.name) (sv v.var) (strs v.supers) (mds v.methods) (bds v.defaults) (iv v.at_))=some (1,[sv v.name,sv v.var,strs v.supers,mds v.methods,bds v.defaults,iv v.at_,sv v.name,sv v.var,strs v.supers,mds v.methods,bds v.defaults,iv v.at_]):=same_loop v.methods (fun i0=>q47b0a (iv (i0:Int)) (sv v.name) (sv v.var) (strs v.supers) (mds v.methods) (bds v.defaults) (iv v.at_) (sv v.name) (sv v.var) (strs v.supers) (mds v.methods) (bds v.defaults) (iv v.at_)) (1,[sv v.name,sv v.var,strs v.supers,mds v.methods,bds v.defaults,iv v.at_,sv v.name,sv v.var,strs v.supers,mds v.methods,bds v.defaults,iv v.at_]) (by assumption) (fun i0 j0 x e0 hx hi0 hm=>by
   show body PG EE TT ev (q47b0a (iv (i0:Int)) (sv v.name) (sv v.var) (strs v.supers) (mds v.methods) (bds v.defaults) (iv v.at_) (sv v.name) (sv v.var) (strs v.supers) (mds v.methods) (bds v.defaults) (iv v.at_))=passK (ev (q47b0a (iv (j0:Int)) (sv v.name) (sv v.var) (strs v.supers) (mds v.methods) (bds v.defaults) (iv v.at_) (sv v.name) (sv v.var) (strs v.supers) (mds v.methods) (bds v.defaults) (iv v.at_)))
   rw[h47b0a,g47b0a]
   simp[hi0,idxK_mds hx]
   have g:=type_same (h3 x hm).1;unfold SamT at g;simp[g]
   simp[e0]) (by
   show body PG EE TT ev (q47b0a (iv (v.methods.length:Int)) (sv v.name) (sv v.var) (strs v.supers) (mds v.methods) (bds v.defaults) (iv v.at_) (sv v.name) (sv v.var) (strs v.supers) (mds v.methods) (bds v.defaults) (iv v.at_))=_
   rw[h47b0a,g47b0a]
   simp)
 exact Evl.of (by
  rw[h47,g47]
  simp
  simp[g1]
  simp[lp]
  simp[g2])
theorem inst_same{v:It}(h:v.Ok):ev (q48 (sv v.cls) (iv v.head.kind) (sv v.head.name) (iv v.head.n) (tys v.head.kids) (pds v.ctx) (bds v.binds) (iv v.at_) (sv v.cls) (iv v.head.kind) (sv v.head.name) (iv v.head.n) (tys v.head.kids) (pds v.ctx) (bds v.binds) (iv v.at_))=some (0,[bv true]):=by
 obtain⟨h1,⟨h2,h3⟩,h4,h5⟩:=h
 have g1:=type_same h1
 unfold SamT at g1
 have g2:=binds_same v.binds h4 (fun x hx=>bd_same (h5 x hx))
 have lp:ev (q48b0a (iv 0) (sv v.cls) (iv v.head.kind) (sv v.head.name) (iv v.head.n) (tys v.head.kids) (pds v.ctx) (bds v.binds) (iv v.at_) (sv v.cls) (iv v.head.kind) (sv v.head.name) (iv v.head.n) (tys v.head.kids) (pds v.ctx) (bds v.binds) (iv v.at_))=some (1,[sv v.cls,iv v.head.kind,sv v.head.name,iv v.head.n,tys v.head.kids,pds v.ctx,bds v.binds,iv v.at_,sv v.cls,iv v.head.kind,sv v.head.name,iv v.head.n,tys v.head.kids,pds v.ctx,bds v.binds,iv v.at_]):=same_loop v.ctx (fun i0=>q48b0a (iv (i0:Int)) (sv v.cls) (iv v.head.kind) (sv v.head.name) (iv v.head.n) (tys v.head.kids) (pds v.ctx) (bds v.binds) (iv v.at_) (sv v.cls) (iv v.head.kind) (sv v.head.name) (iv v.head.n) (tys v.head.kids) (pds v.ctx) (bds v.binds) (iv v.at_)) (1,[sv v.cls,iv v.head.kind,sv v.head.name,iv v.head.n,tys v.head.kids,pds v.ctx,bds v.binds,iv v.at_,sv v.cls,iv v.head.kind,sv v.head.name,iv v.head.n,tys v.head.kids,pds v.ctx,bds v.binds,iv v.at_]) (by assumption) (fun i0 j0 x e0 hx hi0 hm=>by
   show body PG EE TT ev (q48b0a (iv (i0:Int)) (sv v.cls) (iv v.head.kind) (sv v.head.name) (iv v.head.n) (tys v.head.kids) (pds v.ctx) (bds v.binds) (iv v.at_) (sv v.cls) (iv v.head.kind) (sv v.head.name) (iv v.head.n) (tys v.head.kids) (pds v.ctx) (bds v.binds) (iv v.at_))=passK (ev (q48b0a (iv (j0:Int)) (sv v.cls) (iv v.head.kind) (sv v.head.name) (iv v.head.n) (tys v.head.kids) (pds v.ctx) (bds v.binds) (iv v.at_) (sv v.cls) (iv v.head.kind) (sv v.head.name) (iv v.head.n) (tys v.head.kids) (pds v.ctx) (bds v.binds) (iv v.at_)))
   rw[h48b0a,g48b0a]
   simp[hi0,idxK_pds hx]
   have g:=type_same (show x.t.Ok from h3 x hm);unfold SamT at g;simp[g]
   simp[e0]) (by
   show body PG EE TT ev (q48b0a (iv (v.ctx.length:Int)) (sv v.cls) (iv v.head.kind) (sv v.head.name) (iv v.head.n) (tys v.head.kids) (pds v.ctx) (bds v.binds) (iv v.at_) (sv v.cls) (iv v.head.kind) (sv v.head.name) (iv v.head.n) (tys v.head.kids) (pds v.ctx) (bds v.binds) (iv v.at_))=_
   rw[h48b0a,g48b0a]
   simp)
 exact Evl.of (by
  rw[h48,g48]
  simp
  simp[g1]
  simp[lp]
  simp[g2])
theorem prog_same(d:List Dt)(c:List Cl)(i:List It)(b:List Bd)(hd:d.length≤maxN)(hd':∀x∈d,x.Ok)(hc:c.length≤maxN)(hc':∀x∈c,x.Ok)(hi:i.length≤maxN)(hi':∀x∈i,x.Ok)(hb:b.length≤maxN)(hb':∀x∈b,x.Ok):ev (q11 (dts d) (cls c) (its i) (bds b) (dts d) (cls c) (its i) (bds b))=some (0,[bv true]):=by
 have g:=binds_same b hb (fun x hx=>bd_same (hb' x hx))
 have k1:ev (q11b0a (iv 0) (dts d) (cls c) (its i) (bds b) (dts d) (cls c) (its i) (bds b))=some (1,[dts d,cls c,its i,bds b,dts d,cls c,its i,bds b]):=same_loop d (fun i0=>q11b0a (iv (i0:Int)) (dts d) (cls c) (its i) (bds b) (dts d) (cls c) (its i) (bds b)) (1,[dts d,cls c,its i,bds b,dts d,cls c,its i,bds b]) (by assumption) (fun i0 j0 x e0 hx hi0 hm=>by
   show body PG EE TT ev (q11b0a (iv (i0:Int)) (dts d) (cls c) (its i) (bds b) (dts d) (cls c) (its i) (bds b))=passK (ev (q11b0a (iv (j0:Int)) (dts d) (cls c) (its i) (bds b) (dts d) (cls c) (its i) (bds b)))
   rw[h11b0a,g11b0a]
   simp[hi0,idxK_dts hx]
   have g:=data_same (hd' x hm);simp[g]
   simp[e0]) (by
   show body PG EE TT ev (q11b0a (iv (d.length:Int)) (dts d) (cls c) (its i) (bds b) (dts d) (cls c) (its i) (bds b))=_
   rw[h11b0a,g11b0a]
   simp)
 have k2:ev (q11b2a (iv 0) (dts d) (cls c) (its i) (bds b) (dts d) (cls c) (its i) (bds b))=some (1,[dts d,cls c,its i,bds b,dts d,cls c,its i,bds b]):=same_loop c (fun i0=>q11b2a (iv (i0:Int)) (dts d) (cls c) (its i) (bds b) (dts d) (cls c) (its i) (bds b)) (1,[dts d,cls c,its i,bds b,dts d,cls c,its i,bds b]) (by assumption) (fun i0 j0 x e0 hx hi0 hm=>by
   show body PG EE TT ev (q11b2a (iv (i0:Int)) (dts d) (cls c) (its i) (bds b) (dts d) (cls c) (its i) (bds b))=passK (ev (q11b2a (iv (j0:Int)) (dts d) (cls c) (its i) (bds b) (dts d) (cls c) (its i) (bds b)))
   rw[h11b2a,g11b2a]
   simp[hi0,idxK_cls hx]
   have g:=class_same (hc' x hm);simp[g]
   simp[e0]) (by
   show body PG EE TT ev (q11b2a (iv (c.length:Int)) (dts d) (cls c) (its i) (bds b) (dts d) (cls c) (its i) (bds b))=_
   rw[h11b2a,g11b2a]
   simp)
 have k3:ev (q11b4a (iv 0) (dts d) (cls c) (its i) (bds b) (dts d) (cls c) (its i) (bds b))=some (1,[dts d,cls c,its i,bds b,dts d,cls c,its i,bds b]):=same_loop i (fun i0=>q11b4a (iv (i0:Int)) (dts d) (cls c) (its i) (bds b) (dts d) (cls c) (its i) (bds b)) (1,[dts d,cls c,its i,bds b,dts d,cls c,its i,bds b]) (by assumption) (fun i0 j0 x e0 hx hi0 hm=>by
   show body PG EE TT ev (q11b4a (iv (i0:Int)) (dts d) (cls c) (its i) (bds b) (dts d) (cls c) (its i) (bds b))=passK (ev (q11b4a (iv (j0:Int)) (dts d) (cls c) (its i) (bds b) (dts d) (cls c) (its i) (bds b)))
   rw[h11b4a,g11b4a]
   simp[hi0,idxK_its hx]
   have g:=inst_same (hi' x hm);simp[g]
   simp[e0]) (by
   show body PG EE TT ev (q11b4a (iv (i.length:Int)) (dts d) (cls c) (its i) (bds b) (dts d) (cls c) (its i) (bds b))=_
   rw[h11b4a,g11b4a]
   simp)
 exact Evl.of (by
  rw[h11,g11]
  simp
  simp[k1]
  simp[k2]
  simp[k3]
  simp[g])
end Go.Proofs.YtjpjcjnacnlhdaaGreat.X
