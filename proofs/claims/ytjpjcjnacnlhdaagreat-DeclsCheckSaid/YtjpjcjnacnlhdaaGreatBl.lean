/- Joined. -/
import Derived.Test.YtjpjcjnacnlhdaaGreatBk
import Derived.Test.YtjpjcjnacnlhdaaGreatBj
import Derived.Test.YtjpjcjnacnlhdaaGreatDy
import Derived.Test.YtjpjcjnacnlhdaaGreatBh
import Derived.Test.YtjpjcjnacnlhdaaGreatBi
set_option linter.unusedSimpArgs false
set_option linter.unusedVariables false
namespace Go.Proofs.YtjpjcjnacnlhdaaGreat
open Go.RowKit
def t6:FT where
 keep:=[]
 kb:=fun
  |_=>[]
 sd:=fun
  |_=>[]
theorem f6_at:Tryz.prog.funcs[6]?=some Tryz.f6:=by kernel_rfl
theorem f6_body:Tryz.f6.body.isSome=true:=by kernel_rfl
theorem f6_tab:tabOk t6.sd t6.sx (bodyOf Tryz.f6)=true:=by kernel_rfl
def T6:Tr:=.call ⟨7,[.pv (.lit (.string exSrc1))],[],.tup [.agg [.pv (.sym 0),.pv (.sym 1),.pv (.sym 2),.pv (.sym 3)],.pv (.sym 4),.pv (.sym 5)],[]⟩ 6 (.call ⟨7,[.pv (.lit (.string exSrc2))],[],.tup [.agg [.pv (.sym 6),.pv (.sym 7),.pv (.sym 8),.pv (.sym 9)],.pv (.sym 10),.pv (.sym 11)],[]⟩ 6 (.call ⟨7,[.pv (.lit (.string exSrc3))],[],.tup [.agg [.pv (.sym 12),.pv (.sym 13),.pv (.sym 14),.pv (.sym 15)],.pv (.sym 16),.pv (.sym 17)],[]⟩ 6 (.call ⟨8,[.agg [.pv (.sym 0),.pv (.sym 1),.pv (.sym 2),.pv (.sym 3)]],[],.tup [.agg [.pv (.sym 18),.pv (.sym 19),.pv (.sym 20)],.agg [.pv (.sym 21),.pv (.sym 22)]],[]⟩ 5 (.call ⟨8,[.agg [.pv (.sym 6),.pv (.sym 7),.pv (.sym 8),.pv (.sym 9)]],[],.tup [.agg [.pv (.sym 23),.pv (.sym 24),.pv (.sym 25)],.agg [.pv (.sym 26),.pv (.sym 27)]],[]⟩ 5 (.call ⟨8,[.agg [.pv (.sym 12),.pv (.sym 13),.pv (.sym 14),.pv (.sym 15)]],[],.tup [.agg [.pv (.sym 28),.pv (.sym 29),.pv (.sym 30)],.agg [.pv (.sym 31),.pv (.sym 32)]],[]⟩ 5 (.alt (.say (.bin .eql 33 (.pv (.sym 21)) (.pv (.lit (.int .i64 125))) (.pv (.lit (.bool true)))) 0 (.alt (.say (.bin .eql 33 (.pv (.sym 26)) (.pv (.lit (.int .i64 126))) (.pv (.lit (.bool true)))) 0 (.alt (.say (.bin .eql 33 (.pv (.sym 31)) (.pv (.lit (.int .i64 0))) (.pv (.lit (.bool true)))) 0 (.say (.len 23 (.pv (.sym 28)) (.pv (.sym 33))) 1 (.alt (.say (.bin .eql 3 (.pv (.sym 33)) (.pv (.lit (.int .i64 1))) (.pv (.lit (.bool true)))) 0 (.ret (.pv (.lit (.bool true))) [])) (.say (.bin .eql 3 (.pv (.sym 33)) (.pv (.lit (.int .i64 1))) (.pv (.lit (.bool false)))) 0 (.ret (.pv (.lit (.bool false))) []))))) (.say (.bin .eql 33 (.pv (.sym 31)) (.pv (.lit (.int .i64 0))) (.pv (.lit (.bool false)))) 0 (.ret (.pv (.lit (.bool false))) [])))) (.say (.bin .eql 33 (.pv (.sym 26)) (.pv (.lit (.int .i64 126))) (.pv (.lit (.bool false)))) 0 (.ret (.pv (.lit (.bool false))) [])))) (.say (.bin .eql 33 (.pv (.sym 21)) (.pv (.lit (.int .i64 125))) (.pv (.lit (.bool false)))) 0 (.ret (.pv (.lit (.bool false))) []))))))))
def A6:List AV:=[]
def H6:List AObj:=[]
set_option maxRecDepth 100000 in
theorem c6:chk Tryz.prog (leafF Tryz.prog t6 6 A6 H6) T6 0 [] [] []=true:=by kernel_rfl
theorem F6  (hn:NSL []) {v:AV} {h':List AObj} (hd:Den Tryz.prog Tryz.f6 T6 [] (.ret v h')) :
  Sem Tryz.prog 6 [] [] v h':=
 fun_rule f6_at f6_body mixed f6_tab (args:=A6) (h:=H6) (by kernel_rfl) c6 rfl hn (by simp only[A6,TsAs,TsA,nm,isRow,List.getD_cons_zero,List.getD_cons_succ,and_self,and_true]) (by trivial) hd
mutual
def nsPD:PV→Bool
 |.sym _=>false
 |.rows es=>nsPDss es
 |_=>true
def nsPDs:List PV→Bool
 |[]=>true
 |p::l=>nsPD p&&nsPDs l
def nsPDss:List (List PV)→Bool
 |[]=>true
 |c::l=>nsPDs c&&nsPDss l
end
mutual
theorem nsPD_ok:∀p:PV,nsPD p=true→NS p
 |.lit v,_=>.lit v
 |.rows es,h=>by
  have:=nsPDss_ok es
  rw[nsPD]at h
  exact .rows _ (this h)
 |.opq ..,_=>.opq ..
 |.rng ..,_=>.rng ..
 |.any,_=>.any
theorem nsPDs_ok:∀l:List PV,nsPDs l=true→∀p∈l,NS p
 |[],_,p,hp=>by cases hp
 |q::l,h,p,hp=>by
  have h1:=nsPD_ok q
  have h2:=nsPDs_ok l
  rw[nsPDs,bAt]at h
  rcases List.mem_cons.1 hp with e|hp
  ·rw[e];exact h1 h.1
  ·exact h2 h.2 p hp
theorem nsPDss_ok:∀l:List (List PV),nsPDss l=true→∀c∈l,∀p∈c,NS p
 |[],_,p,hp=>by cases hp
 |q::l,h,c,hc=>by
  have h1:=nsPDs_ok q
  have h2:=nsPDss_ok l
  rw[nsPDss,bAt]at h
  rcases List.mem_cons.1 hc with e|hc
  ·rw[e];exact h1 h.1
  ·exact h2 h.2 c hc
end
@[simp] theorem ns_exD1:NS exD1:=nsPD_ok _ (by kernel_rfl)
@[simp] theorem ns_exC1:NS exC1:=nsPD_ok _ (by kernel_rfl)
@[simp] theorem ns_exI1:NS exI1:=nsPD_ok _ (by kernel_rfl)
@[simp] theorem ns_exB1:NS exB1:=nsPD_ok _ (by kernel_rfl)
@[simp] theorem ns_exD2:NS exD2:=nsPD_ok _ (by kernel_rfl)
@[simp] theorem ns_exC2:NS exC2:=nsPD_ok _ (by kernel_rfl)
@[simp] theorem ns_exI2:NS exI2:=nsPD_ok _ (by kernel_rfl)
@[simp] theorem ns_exB2:NS exB2:=nsPD_ok _ (by kernel_rfl)
@[simp] theorem ns_exD3:NS exD3:=nsPD_ok _ (by kernel_rfl)
@[simp] theorem ns_exC3:NS exC3:=nsPD_ok _ (by kernel_rfl)
@[simp] theorem ns_exI3:NS exI3:=nsPD_ok _ (by kernel_rfl)
@[simp] theorem ns_exB3:NS exB3:=nsPD_ok _ (by kernel_rfl)
theorem awake_sem:Sem Tryz.prog 6 [] [] (.pv (bv true)) []:=by
 have p1:Sem Tryz.prog 7 _ _ _ _:=ex_p1
 have p2:Sem Tryz.prog 7 _ _ _ _:=ex_p2
 have p3:Sem Tryz.prog 7 _ _ _ _:=ex_p3
 have q1:Sem Tryz.prog 8 _ _ _ _:=ex_c1
 have q2:Sem Tryz.prog 8 _ _ _ _:=ex_c2
 have q3:Sem Tryz.prog 8 _ _ _ _:=ex_c3
 refine F6 (by simp) ?_
 simp[T6]
 refine⟨_,_,_,_,_,_,p1,⟨_,_,_,_,_,_,p2,⟨_,_,_,_,_,_,p3,⟨_,_,_,_,_,q1,⟨_,_,_,_,_,q2,⟨_,_,_,_,_,q3,?_⟩,by simp⟩,by simp⟩,by simp⟩,by simp⟩,by simp⟩
 simp[len_ok sl_dts]
 exact nsPD_ok _ (by kernel_rfl)
theorem ev_fn{q:Q}{r:Rs}{ent:Ent}{sh:Shape}{args:List AV}{h h':List AObj}{v:AV}(he:EE q.k=ent)(hl:ent.lp=none)(hs:shp SS EE q.k r.1=sh)(ha:oAs (nm q.xs) ent.args=args)(hh:openH (nm q.xs) ent.h=h)(hv:oAV (nm r.2) sh.v=v)(hh':openH (nm r.2) sh.h=h')
  (hn:q.xs.length=ent.n) (hr:ent.rin=[]) (hns:NSL q.xs) (h0:ev q=some r):Sem Tryz.prog ent.f args h v h'∧NSL r.2:=by
 obtain⟨h1,h2⟩:=ev_sound h0 ⟨by rw[he];exact hn,hns,by rw[he,hr];intro i hi;cases hi⟩
 refine⟨?_,h2.ns⟩
 unfold SemQ at h1
 rw[he,hl]at h1
 simp only at h1
 rw[hs,ha,hh,hv,hh']at h1
 exact h1
theorem pg_ns(p:Pg):NSL [dts p.kj,cls p.kc,its p.ki,bds p.binds]:=by simp
def allS(v:Ev):List ByteArray:=(v.kc.map Cl.supers).flatten
structure Bnd(p:Pg):Prop where
 big:Big p.toEv (allS p.toEv) (allS p.toEv).length
 fit:Fit p.toEv
 i:p.ki.length≤1000000000
 b:p.binds.length≤1000000000
def errS(p:Pg):Int×Int:=match checkF p.toEv (allS p.toEv).length p.binds with
 |some f=>f
 |none=>(0,0)
theorem check_r_sem(p:Pg)(hB:Bnd p):Sem Tryz.prog 9 [pgA p] [] (.agg [.pv (iv (errS p).1),.pv (iv (errS p).2)]) []:=by
 have h:=check_r hB.big hB.fit p.binds hB.b
 have h2:ev (q9 (dts p.kj) (cls p.kc) (its p.ki) (bds p.binds))=some (0,[iv (errS p).1,iv (errS p).2]):=by
  rw[h]
  unfold errS
  cases checkF p.toEv (allS p.toEv).length p.binds<;>rfl
 exact(ev_fn (q:=q9 (dts p.kj) (cls p.kc) (its p.ki) (bds p.binds)) (r:=(0,[iv (errS p).1,iv (errS p).2])) (ent:=en121) (sh:={v:=.agg [.pv (.sym 0),.pv (.sym 1)],m:=2 }) (by kernel_rfl) rfl (by kernel_rfl) rfl rfl rfl rfl rfl rfl (pg_ns p) h2).1
theorem run_sem(p:Pg)(hB:Bnd p):∃m,NS m∧Sem Tryz.prog 39 [.ptr 0 0,.pv (bds p.binds)] [.box 97 [.pv (dts p.kj),.pv (cls p.kc),.pv (its p.ki),.mp 1],.mp [] [.pv (.rows [])]] (.agg [.pv (iv (errS p).1),.pv (iv (errS p).2)])
  [.box 97 [.pv (dts p.kj),.pv (cls p.kc),.pv (its p.ki),.mp 1],.mp [] [.pv m]]:=by
 obtain⟨m,h⟩:=run_p hB.big hB.fit p.binds hB.b
 have h2:ev (q39a (bds p.binds) (dts p.kj) (cls p.kc) (its p.ki) (.rows []))=some (0,[dts p.kj,cls p.kc,its p.ki,m,iv (errS p).1,iv (errS p).2]):=by
  rw[h]
  unfold errS
  cases checkF p.toEv (allS p.toEv).length p.binds<;>rfl
 obtain⟨h3,h4⟩:=ev_fn (q:=q39a (bds p.binds) (dts p.kj) (cls p.kc) (its p.ki) (.rows [])) (r:=(0,[dts p.kj,cls p.kc,its p.ki,m,iv (errS p).1,iv (errS p).2])) (ent:=en49)
  (sh:={v:=.agg [.pv (.sym 4),.pv (.sym 5)],h:=[.box 97 [.pv (.sym 0),.pv (.sym 1),.pv (.sym 2),.mp 1],.mp [] [.pv (.sym 3)]],m:=6 }) (by kernel_rfl) rfl (by kernel_rfl) rfl rfl rfl rfl rfl rfl (by have hz:NS (.rows []):=ns_strs [];simp[hz]) h2
 exact⟨m,h4 m (by simp),h3⟩
theorem errS_none(p:Pg):(errS p).1=0→(errS p)=(0,0):=by
 unfold errS
 cases h:checkF p.toEv (allS p.toEv).length p.binds with
 |none=>intro _;rfl
 |some f=>intro h0;exact absurd h0 (checkF_ne h)
theorem den_check(p:Pg){v:AV}{h':List AObj}(hd:Den Tryz.prog Tryz.f8 T8 [dts p.kj,cls p.kc,its p.ki,bds p.binds] (.ret v h')):Sem Tryz.prog 8 [pgA p] [] v h':=
 fun_rule f8_at f8_body mixed f8_tab (args:=A8) (h:=H8) (by kernel_rfl) c8 rfl (pg_ns p) (by simp only[A8,TsAs,TsA,nm,isRow,List.getD_cons_zero,List.getD_cons_succ,and_self,and_true]) (by trivial) hd
theorem check_sem(p:Pg)(hB:Bnd p):∃d c i,((errS p).1=0∧d=p.kj∧c=p.kc∧i=p.ki∨(errS p).1≠0∧d=[]∧c=[]∧i=[])∧Sem Tryz.prog 8 [pgA p] [] (.tup [.agg [.pv (dts d),.pv (cls c),.pv (its i)],.agg [.pv (iv (errS p).1),.pv (iv (errS p).2)]]) []:=by
 have g1:=hB.fit.dl
 have g2:=hB.fit.cl
 have g3:=hB.i
 have s1:=clone_dts p.kj (by omega)
 have s2:=clone_cls p.kc (by omega)
 have s3:=clone_its p.ki (by omega)
 obtain⟨m,hm,s4⟩:=run_sem p hB
 by_cases h0:(errS p).1=0
 ·have e:=errS_none p h0
  refine⟨p.kj,p.kc,p.ki,.inl ⟨h0,rfl,rfl,rfl⟩,den_check p ?_⟩
  unfold T8
  rw[e]at s4 ⊢
  rw[Den,exN]
  refine⟨dts p.kj,?_⟩
  rw[exN]
  refine⟨⟨⟨s1,by trivial,by trivial⟩,?_⟩,by simp⟩
  rw[Den,exN]
  refine⟨cls p.kc,?_⟩
  rw[exN]
  refine⟨⟨⟨s2,by trivial,by trivial⟩,?_⟩,by simp⟩
  rw[Den,exN]
  refine⟨its p.ki,?_⟩
  rw[exN]
  refine⟨⟨⟨s3,by trivial,by trivial⟩,?_⟩,by simp⟩
  rw[Den,exN]
  refine⟨m,?_⟩
  rw[exN]
  refine⟨iv 0,?_⟩
  rw[exN]
  refine⟨iv 0,?_⟩
  rw[exN]
  refine⟨⟨⟨⟨⟨s4,by simp,by simp⟩,?_⟩,hm⟩,by simp⟩,by simp⟩
  rw[Den]
  refine .inr ?_
  simp[nm]
 ·refine⟨[],[],[],.inr ⟨h0,rfl,rfl,rfl⟩,Sem.forget (v:=.tup [.agg [.pv nilS,.pv nilS,.pv nilS],.agg [.pv (iv (errS p).1),.pv (iv (errS p).2)]]) (h':=[]) (den_check p ?_) rfl⟩
  unfold T8
  rw[Den,exN]
  refine⟨dts p.kj,?_⟩
  rw[exN]
  refine⟨⟨⟨s1,by trivial,by trivial⟩,?_⟩,by simp⟩
  rw[Den,exN]
  refine⟨cls p.kc,?_⟩
  rw[exN]
  refine⟨⟨⟨s2,by trivial,by trivial⟩,?_⟩,by simp⟩
  rw[Den,exN]
  refine⟨its p.ki,?_⟩
  rw[exN]
  refine⟨⟨⟨s3,by trivial,by trivial⟩,?_⟩,by simp⟩
  rw[Den,exN]
  refine⟨m,?_⟩
  rw[exN]
  refine⟨iv (errS p).1,?_⟩
  rw[exN]
  refine⟨iv (errS p).2,?_⟩
  rw[exN]
  refine⟨⟨⟨⟨⟨s4,by simp,by simp⟩,?_⟩,hm⟩,by simp⟩,by simp⟩
  rw[Den]
  refine .inl ?_
  simp[nm,h0]
set_option maxRecDepth 100000
def t3:FT where
 keep:=[]
 kb:=fun
  |_=>[]
 sd:=fun
  |_=>[]
theorem f3_at:Tryz.prog.funcs[3]?=some Tryz.f3:=by kernel_rfl
theorem f3_body:Tryz.f3.body.isSome=true:=by kernel_rfl
theorem f3_tab:tabOk t3.sd t3.sx (bodyOf Tryz.f3)=true:=by kernel_rfl
def T3:Tr:=.alt (.call ⟨6,[],[],.pv (.lit (.bool true)),[]⟩ 0 (.say (.len 9 (.pv (.sym 0)) (.pv (.sym 1))) 1 (.alt (.say (.bin .gtr 3 (.pv (.sym 1)) (.pv (.lit (.int .i64 3000))) (.pv (.lit (.bool true)))) 0 (.ret (.pv (.lit (.bool true))) [])) (.say (.bin .gtr 3 (.pv (.sym 1)) (.pv (.lit (.int .i64 3000))) (.pv (.lit (.bool false)))) 0 (.call ⟨7,[.pv (.sym 0)],[],.tup [.agg [.pv (.sym 2),.pv (.sym 3),.pv (.sym 4),.pv (.sym 5)],.pv (.sym 6),.pv (.sym 7)],[]⟩ 6 (.call ⟨8,[.agg [.pv (.sym 2),.pv (.sym 3),.pv (.sym 4),.pv (.sym 5)]],[],.tup [.agg [.pv (.sym 8),.pv (.sym 9),.pv (.sym 10)],.agg [.pv (.sym 11),.pv (.sym 12)]],[]⟩ 5 (.call ⟨9,[.agg [.pv (.sym 2),.pv (.sym 3),.pv (.sym 4),.pv (.sym 5)]],[],.agg [.pv (.sym 13),.pv (.sym 14)],[]⟩ 2 (.alt (.say (.bin .neq 3 (.pv (.sym 11)) (.pv (.sym 13)) (.pv (.lit (.bool true)))) 0 (.ret (.pv (.lit (.bool false))) [])) (.say (.bin .neq 3 (.pv (.sym 11)) (.pv (.sym 13)) (.pv (.lit (.bool false)))) 0 (.alt (.say (.bin .neq 3 (.pv (.sym 12)) (.pv (.sym 14)) (.pv (.lit (.bool true)))) 0 (.ret (.pv (.lit (.bool false))) [])) (.say (.bin .neq 3 (.pv (.sym 12)) (.pv (.sym 14)) (.pv (.lit (.bool false)))) 0 (.call ⟨10,[.agg [.pv (.sym 2),.pv (.sym 3),.pv (.sym 4),.pv (.sym 5)]],[],.agg [.pv (.sym 15),.pv (.sym 16),.pv (.sym 17)],[]⟩ 3 (.alt (.say (.bin .neq 3 (.pv (.sym 13)) (.pv (.lit (.int .i64 0))) (.pv (.lit (.bool true)))) 0 (.alt (.call ⟨11,[.agg [.pv (.sym 8),.pv (.sym 9),.pv (.sym 10),.pv (.rows [])],.agg [.pv (.rows []),.pv (.rows []),.pv (.rows []),.pv (.rows [])]],[],.pv (.lit (.bool true)),[]⟩ 0 (.ret (.pv (.lit (.bool true))) [])) (.call ⟨11,[.agg [.pv (.sym 8),.pv (.sym 9),.pv (.sym 10),.pv (.rows [])],.agg [.pv (.rows []),.pv (.rows []),.pv (.rows []),.pv (.rows [])]],[],.pv (.lit (.bool false)),[]⟩ 0 (.ret (.pv (.lit (.bool false))) [])))) (.say (.bin .neq 3 (.pv (.sym 13)) (.pv (.lit (.int .i64 0))) (.pv (.lit (.bool false)))) 0 (.alt (.call ⟨11,[.agg [.pv (.sym 8),.pv (.sym 9),.pv (.sym 10),.pv (.rows [])],.agg [.pv (.sym 15),.pv (.sym 16),.pv (.sym 17),.pv (.rows [])]],[],.pv (.lit (.bool true)),[]⟩ 0 (.ret (.pv (.lit (.bool true))) [])) (.call ⟨11,[.agg [.pv (.sym 8),.pv (.sym 9),.pv (.sym 10),.pv (.rows [])],.agg [.pv (.sym 15),.pv (.sym 16),.pv (.sym 17),.pv (.rows [])]],[],.pv (.lit (.bool false)),[]⟩ 0 (.ret (.pv (.lit (.bool false))) []))))))))))))))))) (.call ⟨6,[],[],.pv (.lit (.bool false)),[]⟩ 0 (.ret (.pv (.lit (.bool false))) []))
def A3:List AV:=[.pv (.sym 0)]
def H3:List AObj:=[]
set_option maxRecDepth 100000 in
theorem c3:chk Tryz.prog (leafF Tryz.prog t3 3 A3 H3) T3 1 [] [] []=true:=by kernel_rfl
theorem F3(x0:PV)(hn:NSL [x0]){v:AV}{h':List AObj}(hd:Den Tryz.prog Tryz.f3 T3 [x0] (.ret v h')) :
  Sem Tryz.prog 3 [.pv x0] [] v h':=
 fun_rule f3_at f3_body mixed f3_tab (args:=A3) (h:=H3) (by kernel_rfl) c3 rfl hn (by simp only[A3,TsAs,TsA,nm,isRow,List.getD_cons_zero,List.getD_cons_succ,and_self,and_true]) (by trivial) hd
end Go.Proofs.YtjpjcjnacnlhdaaGreat
namespace Go.Proofs.YtjpjcjnacnlhdaaGreat.X
open Go.RowKit
theorem ev_fx{q:Q}{r:Rs}{ent:Ent}{sh:Shape}{args:List AV}{h h':List AObj}{v:AV}(he:EE q.k=ent)(hl:ent.lp=none)(hs:shp SS EE q.k r.1=sh)(ha:oAs (nm q.xs) ent.args=args)(hh:openH (nm q.xs) ent.h=h)(hv:oAV (nm r.2) sh.v=v)(hh':openH (nm r.2) sh.h=h')
  (hn:q.xs.length=ent.n) (hr:ent.rin=[]) (hns:NSL q.xs) (h0:ev q=some r):Sem Tryz.prog ent.f args h v h'∧NSL r.2:=by
 obtain⟨h1,h2⟩:=ev_sound h0 ⟨by rw[he];exact hn,hns,by rw[he,hr];intro i hi;cases hi⟩
 refine⟨?_,h2.ns⟩
 unfold SemQ at h1
 rw[he,hl]at h1
 simp only at h1
 rw[hs,ha,hh,hv,hh']at h1
 exact h1
theorem wk_of{a:PV}{f:PV}(h0:wkP f=f)(h:a=nilS∧f=.rows []∨a=f):wkP a=f:=by
 rcases h with⟨rfl,rfl⟩|rfl
 ·rfl
 ·exact h0
theorem prog_sem(b:ByteArray):∃(x y:Int) (d:List Dt) (c:List Cl) (i:List It) (l:List Bd),Sem Tryz.prog 7 [.pv (sv b)] [] (.tup [.agg [.pv (dts d),.pv (cls c),.pv (its i),.pv (bds l)],.pv (iv x),.pv (iv y)]) []∧PgP (b.size+2) d c i l:=by
 obtain⟨k,p,q,r,s,x,y,d,c,i,l,h,_,_,_,_,h1,h2,h3,h4,hp⟩:=prog_ok b
 have g:=Evl.of h
 have w1:wkP p=dts d:=wk_of rfl (h1.imp (fun h=>⟨h.1,by rw[h.2];rfl⟩) id)
 have w2:wkP q=cls c:=wk_of rfl (h2.imp (fun h=>⟨h.1,by rw[h.2];rfl⟩) id)
 have w3:wkP r=its i:=wk_of rfl (h3.imp (fun h=>⟨h.1,by rw[h.2];rfl⟩) id)
 have w4:wkP s=bds l:=wk_of rfl (h4.imp (fun h=>⟨h.1,by rw[h.2];rfl⟩) id)
 have g2:ev (q7w (sv b))=some (0,[dts d,cls c,its i,bds l,iv x,iv y]):=Evl.of (by rw[h7w];simp[g,w1,w2,w3,w4])
 exact⟨x,y,d,c,i,l,(ev_fx (q:=q7w (sv b)) (r:=(0,[dts d,cls c,its i,bds l,iv x,iv y])) (ent:=en173) (sh:={v:=.tup [.agg [.pv (.sym 0),.pv (.sym 1),.pv (.sym 2),.pv (.sym 3)],.pv (.sym 4),.pv (.sym 5)],m:=6 }) (by kernel_rfl) rfl (by kernel_rfl) rfl rfl rfl rfl rfl rfl (by simp) g2).1,hp⟩
theorem sup_len:∀(l:List Cl),(∀x∈l,x.supers.length≤10000000)→((l.map Cl.supers).flatten).length≤10000000*l.length
 |[],_=>by simp
 |a::l,h=>by
  have h1:=h a (List.mem_cons_self ..)
  have h2:=sup_len l (fun x hx=>h x (lMc _ hx))
  simp only[List.map_cons,List.flatten_cons,List.length_append,List.length_cons]
  omega
theorem bnd_of{n:Nat}(hn:n≤4000){d:List Dt}{c:List Cl}{i:List It}{l:List Bd}(h:PgP n d c i l):Bnd ⟨⟨d,c,i⟩,l⟩:=by
 have h1:=h.nd
 have h2:=h.nc
 have h3:=h.ni
 have h4:=h.nb
 have hs:=sup_len c (fun x hx=>(h.oc x hx).2.2.1)
 have hcn:cnt (allS ⟨d,c,i⟩) []≤(allS ⟨d,c,i⟩).length:=List.length_filter_le _ _
 have hl:(allS ⟨d,c,i⟩).length≤10000000*c.length:=hs
 refine⟨⟨⟨by unfold maxN;simp only;omega,fun x hx=>(h.oc x hx).1.1,fun x hx s hs=>List.mem_flatten.2 ⟨x.supers,List.mem_map.2 ⟨x,hx,rfl⟩,hs⟩⟩,by simp only;omega,by simp only;omega⟩,?_,by simp only;omega,by simp only;omega⟩
 refine {d:=by unfold maxN;simp only;omega,c:=by unfold maxN;simp only;omega,i:=by unfold maxN;simp only;omega,m:=fun x hx=>⟨by have:=(h.oc x hx).2.1;omega,by have:=(h.oc x hx).2.2.2;omega⟩,x:=fun x hx=>⟨(h.oi x hx).1.2.1.1,by have:=(h.oi x hx).2.1;omega,by have:=(h.oi x hx).2.2;omega⟩,dl:=by simp only;omega,dc:=fun x hx=>?_,cl:=by simp only;omega,cm:=fun x hx=>?_ }
 ·obtain⟨⟨o1,⟨o2,o3⟩,o4⟩,o5⟩:=h.od x hx
  exact⟨by omega,o1,fun c hc=>o3 c hc⟩
 ·obtain⟨⟨o1,⟨o2,o3⟩,o4,o5⟩,o6,o7,_⟩:=h.oc x hx
  exact⟨by omega,o1,fun m hm=>⟨(o3 m hm).1,by have:=(o3 m hm).2;omega⟩⟩
theorem same_sem(d:List Dt)(c:List Cl)(i:List It)(hd:d.length≤maxN)(hd':∀x∈d,x.Ok)(hc:c.length≤maxN)(hc':∀x∈c,x.Ok)(hi:i.length≤maxN)(hi':∀x∈i,x.Ok) :
  Sem Tryz.prog 11 [.agg [.pv (dts d),.pv (cls c),.pv (its i),.pv (.rows [])],.agg [.pv (dts d),.pv (cls c),.pv (its i),.pv (.rows [])]] [] (.pv (bv true)) []:=
 (ev_fx (q:=q11 (dts d) (cls c) (its i) (bds []) (dts d) (cls c) (its i) (bds [])) (r:=(0,[bv true])) (ent:=en136) (sh:={v:=.pv (.sym 0),m:=1 }) (by kernel_rfl) rfl (by kernel_rfl) rfl rfl rfl rfl rfl rfl (by have hz:NS (.rows []):=ns_strs [];simp[hz]) (prog_same d c i [] hd hd' hc hc' hi hi' (by simp[maxN]) (by simp))).1
theorem env_sem(a b c e:PV)(hn:NSL [a,b,c,e]):Sem Tryz.prog 10 [.agg [.pv a,.pv b,.pv c,.pv e]] [] (.agg [.pv a,.pv b,.pv c]) []:=
 (ev_fx (q:=q10 a b c e) (r:=(0,[a,b,c])) (ent:=en135) (sh:={v:=.agg [.pv (.sym 0),.pv (.sym 1),.pv (.sym 2)],m:=3 }) (by kernel_rfl) rfl (by kernel_rfl) rfl rfl rfl rfl rfl rfl hn (Evl.of (by rw[h10,g10];rfl))).1
theorem den_dc(b:ByteArray){v:AV}{h':List AObj}(hd:Den Tryz.prog Tryz.f3 T3 [sv b] (.ret v h')):Sem Tryz.prog 3 [.pv (sv b)] [] v h':=
 F3 (sv b) (by simp) hd
theorem check_ok(b:ByteArray):Sem Tryz.prog 3 [.pv (sv b)] [] (.pv (bv true)) []:=by
 have sa:=awake_sem
 refine den_dc b ?_
 unfold T3
 rw[Den]
 refine .inl ?_
 rw[Den,exN]
 refine⟨?_,?_⟩
 ·exact⟨sa,trivial,trivial⟩
 rw[Den,exN]
 refine⟨iv b.size,?_⟩
 rw[exN]
 refine⟨⟨(len_str uS b).2 rfl,?_⟩,by simp⟩
 rw[Den]
 by_cases h0:3000<(b.size:Int)
 ·refine .inl ?_
  rw[Den,exN]
  refine⟨bin_gtr.2 (by simp[h0]),?_⟩
  simp[nm]
 ·refine .inr ?_
  rw[Den,exN]
  refine⟨bin_gtr.2 (by simp[h0]),?_⟩
  obtain⟨x,y,d,c,i,l,sp,hp⟩:=prog_sem b
  have hB:=bnd_of (by omega) hp
  obtain⟨d',c',i',he,s8⟩:=check_sem ⟨⟨d,c,i⟩,l⟩ hB
  have s9:=check_r_sem ⟨⟨d,c,i⟩,l⟩ hB
  obtain⟨e1,q1⟩:∃e,e=(errS ⟨⟨d,c,i⟩,l⟩).1:=⟨_,rfl⟩
  obtain⟨e2,q2⟩:∃e,e=(errS ⟨⟨d,c,i⟩,l⟩).2:=⟨_,rfl⟩
  rw[←q1]at he s8 s9
  rw[←q2]at s8 s9
  clear q1 q2
  have s8:Sem Tryz.prog 8 [.agg [.pv (dts d),.pv (cls c),.pv (its i),.pv (bds l)]] [] (.tup [.agg [.pv (dts d'),.pv (cls c'),.pv (its i')],.agg [.pv (iv e1),.pv (iv e2)]]) []:=s8
  have s9:Sem Tryz.prog 9 [.agg [.pv (dts d),.pv (cls c),.pv (its i),.pv (bds l)]] [] (.agg [.pv (iv e1),.pv (iv e2)]) []:=s9
  have s10:=env_sem (dts d) (cls c) (its i) (bds l) (by simp)
  rw[Den,exN]
  refine⟨dts d,?_⟩
  rw[exN]
  refine⟨cls c,?_⟩
  rw[exN]
  refine⟨its i,?_⟩
  rw[exN]
  refine⟨bds l,?_⟩
  rw[exN]
  refine⟨iv x,?_⟩
  rw[exN]
  refine⟨iv y,?_⟩
  rw[exN]
  simp only[List.cons_append,List.nil_append]
  refine⟨⟨⟨⟨⟨⟨⟨?_,?_⟩,by simp⟩,by simp⟩,by simp⟩,by simp⟩,by simp⟩,by simp⟩
  ·exact⟨sp,trivial,trivial⟩
  rw[Den,exN]
  refine⟨dts d',?_⟩
  rw[exN]
  refine⟨cls c',?_⟩
  rw[exN]
  refine⟨its i',?_⟩
  rw[exN]
  refine⟨iv e1,?_⟩
  rw[exN]
  refine⟨iv e2,?_⟩
  rw[exN]
  simp only[List.cons_append,List.nil_append]
  refine⟨⟨⟨⟨⟨⟨?_,?_⟩,by simp⟩,by simp⟩,by simp⟩,by simp⟩,by simp⟩
  ·exact⟨s8,trivial,trivial⟩
  rw[Den,exN]
  refine⟨iv e1,?_⟩
  rw[exN]
  refine⟨iv e2,?_⟩
  rw[exN]
  simp only[List.cons_append,List.nil_append]
  refine⟨⟨⟨?_,?_⟩,by simp⟩,by simp⟩
  ·exact⟨s9,trivial,trivial⟩
  rw[Den]
  refine .inr ?_
  rw[Den,exN]
  refine⟨bin_neq.2 (by simp[nm]),?_⟩
  rw[Den]
  refine .inr ?_
  rw[Den,exN]
  refine⟨bin_neq.2 (by simp[nm]),?_⟩
  rw[Den,exN]
  refine⟨dts d,?_⟩
  rw[exN]
  refine⟨cls c,?_⟩
  rw[exN]
  refine⟨its i,?_⟩
  rw[exN]
  simp only[List.cons_append,List.nil_append]
  refine⟨⟨⟨⟨?_,?_⟩,by simp⟩,by simp⟩,by simp⟩
  ·exact⟨s10,trivial,trivial⟩
  have h1:=hp.nd
  have h2:=hp.nc
  have h3:=hp.ni
  rw[Den]
  rcases he with⟨h0',rfl,rfl,rfl⟩|⟨h0',rfl,rfl,rfl⟩
  ·refine .inr ?_
   have s11:=same_sem d' c' i' (by unfold maxN;omega) (fun x hx=>(hp.od x hx).1) (by unfold maxN;omega) (fun x hx=>(hp.oc x hx).1) (by unfold maxN;omega) (fun x hx=>(hp.oi x hx).1)
   rw[Den,exN]
   refine⟨bin_neq.2 (by simpa[nm]using h0'),?_⟩
   rw[Den]
   refine .inl ?_
   rw[Den,exN]
   refine⟨?_,?_⟩
   ·exact⟨s11,trivial,trivial⟩
   simp[nm]
  ·refine .inl ?_
   have s11:=same_sem [] [] [] (by simp[maxN]) (by simp) (by simp[maxN]) (by simp) (by simp[maxN]) (by simp)
   rw[Den,exN]
   refine⟨bin_neq.2 (by simpa[nm]using h0'),?_⟩
   rw[Den]
   refine .inl ?_
   rw[Den,exN]
   refine⟨?_,?_⟩
   ·exact⟨s11,trivial,trivial⟩
   simp[nm]
end Go.Proofs.YtjpjcjnacnlhdaaGreat.X
