/- Joined. -/
import Derived.Test.YtjpjcjnacnlhdaaGreatDz0
import Derived.Test.YtjpjcjnacnlhdaaGreatBe
set_option linter.unusedVariables false
set_option linter.unusedSimpArgs false
namespace Go.Proofs.YtjpjcjnacnlhdaaGreat
open Go.RowKit
def T8:Tr:=.call ⟨36,[.pv (.sym 0)],[],.pv (.sym 4),[]⟩ 1 (.call ⟨37,[.pv (.sym 1)],[],.pv (.sym 5),[]⟩ 1 (.call ⟨38,[.pv (.sym 2)],[],.pv (.sym 6),[]⟩ 1 (.call ⟨39,[.ptr 0 0,.pv (.sym 3)],[.box 97 [.pv (.sym 4),.pv (.sym 5),.pv (.sym 6),.mp 1],.mp [] [.pv (.rows [])]],.agg [.pv (.sym 8),.pv (.sym 9)],[.box 97 [.pv (.sym 4),.pv (.sym 5),.pv (.sym 6),.mp 1],.mp [] [.pv (.sym 7)]]⟩ 3 (.alt (.say (.bin .neq 33 (.pv (.sym 8)) (.pv (.lit (.int .i64 0))) (.pv (.lit (.bool true)))) 0 (.ret (.tup [.agg [.pv (.lit (.slice none 0 0)),.pv (.lit (.slice none 0 0)),.pv (.lit (.slice none 0 0))],.agg [.pv (.sym 8),.pv (.sym 9)]]) [])) (.say (.bin .neq 33 (.pv (.sym 8)) (.pv (.lit (.int .i64 0))) (.pv (.lit (.bool false)))) 0 (.ret (.tup [.agg [.pv (.sym 4),.pv (.sym 5),.pv (.sym 6)],.agg [.pv (.lit (.int .i64 0)),.pv (.lit (.int .i64 0))]]) []))))))
def A8:List AV:=[.agg [.pv (.sym 0),.pv (.sym 1),.pv (.sym 2),.pv (.sym 3)]]
def H8:List AObj:=[]
set_option maxRecDepth 100000 in
theorem c8:chk Tryz.prog (leafF Tryz.prog t8 8 A8 H8) T8 4 [] [] []=true:=by kernel_rfl
def T36:Tr:=.alt (.say (.bin .eql 23 (.pv (.sym 0)) (.pv (.lit (.slice none 0 0))) (.pv (.lit (.bool true)))) 0 (.ret (.pv (.lit (.slice none 0 0))) [])) (.say (.bin .eql 23 (.pv (.sym 0)) (.pv (.lit (.slice none 0 0))) (.pv (.lit (.bool false)))) 0 (.alt (.say (.app 23 (.pv (.rows [])) (.pv (.sym 0)) 1) 1 (.ret (.tsym 0 1) [.tok 73 5 (symBase+1)])) (.say (.app0 23 (.pv (.rows [])) (.pv (.sym 0))) 0 (.ret (.trows 0 []) [.tok 73 5 0]))))
def A36:List AV:=[.pv (.sym 0)]
def H36:List AObj:=[]
set_option maxRecDepth 100000 in
theorem c36:chk Tryz.prog (leafF Tryz.prog t36 36 A36 H36) T36 1 [] [] []=true:=by kernel_rfl
def T37:Tr:=.alt (.say (.bin .eql 24 (.pv (.sym 0)) (.pv (.lit (.slice none 0 0))) (.pv (.lit (.bool true)))) 0 (.ret (.pv (.lit (.slice none 0 0))) [])) (.say (.bin .eql 24 (.pv (.sym 0)) (.pv (.lit (.slice none 0 0))) (.pv (.lit (.bool false)))) 0 (.alt (.say (.app 24 (.pv (.rows [])) (.pv (.sym 0)) 1) 1 (.ret (.tsym 0 1) [.tok 77 6 (symBase+1)])) (.say (.app0 24 (.pv (.rows [])) (.pv (.sym 0))) 0 (.ret (.trows 0 []) [.tok 77 6 0]))))
def A37:List AV:=[.pv (.sym 0)]
def H37:List AObj:=[]
set_option maxRecDepth 100000 in
theorem c37:chk Tryz.prog (leafF Tryz.prog t37 37 A37 H37) T37 1 [] [] []=true:=by kernel_rfl
def T38:Tr:=.alt (.say (.bin .eql 25 (.pv (.sym 0)) (.pv (.lit (.slice none 0 0))) (.pv (.lit (.bool true)))) 0 (.ret (.pv (.lit (.slice none 0 0))) [])) (.say (.bin .eql 25 (.pv (.sym 0)) (.pv (.lit (.slice none 0 0))) (.pv (.lit (.bool false)))) 0 (.alt (.say (.app 25 (.pv (.rows [])) (.pv (.sym 0)) 1) 1 (.ret (.tsym 0 1) [.tok 81 8 (symBase+1)])) (.say (.app0 25 (.pv (.rows [])) (.pv (.sym 0))) 0 (.ret (.trows 0 []) [.tok 81 8 0]))))
def A38:List AV:=[.pv (.sym 0)]
def H38:List AObj:=[]
set_option maxRecDepth 100000 in
theorem c38:chk Tryz.prog (leafF Tryz.prog t38 38 A38 H38) T38 1 [] [] []=true:=by kernel_rfl
theorem pureRun_eqnil{P:Program}{t e:TypeId}(h:P.underlying t=some (.slice e))(d:Nat)(a:Option Addr)(c:Nat):pureRun P (Op.equalIn (d+1) t (.slice a 0 c) (.slice none 0 0))=some a.isNone:=by
 cases a<;>(simp only[Op.equalIn,pureRun_bind,pureRun_und h,Option.bind_some];rfl)
theorem bin_nile{P:Program}{t e:TypeId}(h:P.underlying t=some (.slice e))(a:Option Addr)(c:Nat):BinOk P .eql t (.pv (.lit (.slice a 0 c))) (.pv (.lit (.slice none 0 0))) (.pv (.lit (.bool a.isNone))):=by
 intro x y
 have h1:pureRun P (Op.equal t (.slice a 0 c) (.slice none 0 0))=some a.isNone:=pureRun_eqnil h _ a c
 have h2:pureRun P (do eqGuard .eql t x y (.slice a 0 c) (.slice none 0 0);binOp .eql t (.slice a 0 c) (.slice none 0 0))=some (.bool a.isNone):=by
  rw[pureRun_bind]
  have g:pureRun P (eqGuard .eql t x y (.slice a 0 c) (.slice none 0 0))=some ():=rfl
  rw[g,Option.bind_some]
  have g2:(binOp .eql t (.slice a 0 c) (.slice none 0 0):Go.Sem Value)=(do pure (.bool (←Op.equal t (.slice a 0 c) (.slice none 0 0)))):=by cases a<;>rfl
  rw[g2,pureRun_bind,h1]
  rfl
 unfold binA
 simp only[AV.val?,fastA,h2]
 rfl
theorem bin_nilr{P:Program}{t e:TypeId}(h:P.underlying t=some (.slice e))(c:List PV)(es:List (List PV)):BinOk P .eql t (.pv (.rows (c::es))) (.pv (.lit (.slice none 0 0))) (.pv (.lit (.bool false))):=by
 intro x y
 unfold binA
 simp[AV.val?,nilEqA,h]
theorem Sem.forget{P:Program}{f:Nat}{args:List AV}{v:AV}{h':List AObj}(hc:Sem P f args [] v h')(hv:refs (wk v)=[]):Sem P f args [] (wk v) []:=fun R=>(hc R).forget hv
theorem und_sl{P:Program}{t:TypeId}{sz b:Nat}(h:SlT P t sz b):∃e,P.underlying t=some (.slice e):=by
 obtain⟨⟨e,zc,g1,_⟩,_⟩:=h
 exact⟨e,g1⟩
theorem den36(x0:PV)(hn:NSL [x0]){v:AV}{h':List AObj}(hd:Den Tryz.prog Tryz.f36 T36 [x0] (.ret v h')):Sem Tryz.prog 36 [.pv x0] [] v h':=
 fun_rule f36_at f36_body mixed f36_tab (args:=A36) (h:=H36) (by kernel_rfl) c36 rfl hn (by simp only[A36,TsAs,TsA,nm,isRow,List.getD_cons_zero,List.getD_cons_succ,and_self,and_true]) (by trivial) hd
theorem clo_nil36:Sem Tryz.prog 36 [.pv (.lit (.slice none 0 0))] [] (.pv (.rows [])) []:=by
 obtain⟨e,he⟩:=und_sl sl_dts
 have h:=den36 (.lit (.slice none 0 0)) (by simp) (v:=.pv (.lit (.slice none 0 0))) (h':=[]) (by
  unfold T36
  rw[Den]
  refine .inl ?_
  rw[Den,exN]
  exact⟨bin_nile he none 0,by simp[nm]⟩)
 exact Sem.forget h rfl
theorem clo_emp36(a:Option Addr)(c:Nat)(hv:emptyV (.slice a 0 c)=true):Sem Tryz.prog 36 [.pv (.lit (.slice a 0 c))] [] (.pv (.rows [])) []:=by
 obtain⟨e,he⟩:=und_sl sl_dts
 cases a with
 |none=>
  have h:=den36 (.lit (.slice none 0 c)) (by simp) (v:=.pv (.lit (.slice none 0 0))) (h':=[]) (by
   unfold T36
   rw[Den]
   refine .inl ?_
   rw[Den,exN]
   exact⟨bin_nile he none c,by simp[nm]⟩)
  exact Sem.forget h rfl
 |some a=>
  have h:=den36 (.lit (.slice (some a) 0 c)) (by simp) (v:=.trows 0 []) (h':=[.tok 73 5 0]) (by
   unfold T36
   rw[Den]
   refine .inr ?_
   rw[Den,exN]
   refine⟨bin_nile he (some a) c,?_⟩
   rw[Den]
   refine .inr ?_
   rw[Den,exN]
   exact⟨app0_ok sl_dts (s:=.pv (.rows [])) (x:=.pv (.lit (.slice (some a) 0 c))) rfl rfl,by
    have h0:dl (nm [PV.lit (Value.slice (some a) 0 c)]) 0=0:=dl_small (by unfold symBase;omega)
    simp[nm]
    exact⟨h0.symm,by rw[h0];unfold symBase;omega⟩⟩)
  exact Sem.forget h rfl
theorem clo_rows36(c:List PV)(es:List (List PV))(hn:NS (.rows (c::es)))(hs:∀x∈c::es,x.length=5)(hl:(c::es).length≤1000000000):Sem Tryz.prog 36 [.pv (.rows (c::es))] [] (.pv (.rows (c::es))) []:=by
 obtain⟨e,he⟩:=und_sl sl_dts
 have ha:AppOk Tryz.prog 23 (.pv (.rows [])) (.pv (.rows (c::es))) (.rows (c::es)):=(app_ok sl_dts (s:=.pv (.rows [])) (x:=.pv (.rows (c::es))) rfl rfl (by simp) hs (by simp only[List.length_nil]at *;omega) (by simp only[List.length_nil]at *;omega)).2 rfl
 have h:=den36 (.rows (c::es)) (by simpa using hn) (v:=.trows 0 (c::es)) (h':=[.tok 73 5 (dl (nm [.rows (c::es),.rows (c::es)]) (symBase+1))]) (by
  unfold T36
  rw[Den]
  refine .inr ?_
  rw[Den,exN]
  refine⟨bin_nilr he c es,?_⟩
  rw[Den]
  refine .inl ?_
  rw[Den,exN]
  refine⟨.rows (c::es),?_⟩
  rw[exN]
  exact⟨⟨ha,by
   have h0:dl (nm [PV.rows (c::es),PV.rows (c::es)]) (symBase+1)=(c::es).length:=dl_sym rfl
   simp[nm]
   rw[h0];unfold symBase;omega⟩,hn⟩)
 exact Sem.forget h rfl
theorem clone_dts(l:List Dt)(hl:l.length≤1000000000):Sem Tryz.prog 36 [.pv (dts l)] [] (.pv (dts l)) []:=by
 cases l with
 |cons x l=>exact clo_rows36 _ _ (ns_dts (x::l)) (by intro c hc;rw[←List.map_cons (f:=Dt.cells),List.mem_map]at hc;obtain⟨y,_,rfl⟩:=hc;rfl) (by simpa using hl)
 |nil=>
  intro R K w us hK hW hus
  have hu:=hus
  obtain⟨h1,h2⟩:=hus
  obtain⟨u,rfl⟩:∃u,us=[u]:=by
   cases us with
   |nil=>cases h1
   |cons u us=>cases us with
    |nil=>exact⟨u,rfl⟩
    |cons _ _=>simp at h1
  have hv:=h2 0 (by simp) (by simp)
  simp only[List.getElem_cons_zero]at hv
  cases hv with
  |pv hp=>
   change PR _ _ (.rows []) _ at hp
   cases hp with
   |rows _ a cap g off sz us' ha hn hsz hc hr=>
    cases hev:emptyV (.slice a 0 cap) with
    |true=>exact clo_emp36 a cap hev R K w _ hK hW (VL.single (.pv (.lit _ rfl)))
    |false=>
     have:a=none∧cap=0:=by
      cases a with
      |some a=>cases hev
      |none=>cases cap with
       |zero=>exact⟨rfl,rfl⟩
       |succ c=>cases hev
     obtain⟨rfl,rfl⟩:=this
     exact clo_nil36 R K w _ hK hW (VL.single (.pv (.lit _ rfl)))
theorem den37(x0:PV)(hn:NSL [x0]){v:AV}{h':List AObj}(hd:Den Tryz.prog Tryz.f37 T37 [x0] (.ret v h')):Sem Tryz.prog 37 [.pv x0] [] v h':=
 fun_rule f37_at f37_body mixed f37_tab (args:=A37) (h:=H37) (by kernel_rfl) c37 rfl hn (by simp only[A37,TsAs,TsA,nm,isRow,List.getD_cons_zero,List.getD_cons_succ,and_self,and_true]) (by trivial) hd
theorem clo_nil37:Sem Tryz.prog 37 [.pv (.lit (.slice none 0 0))] [] (.pv (.rows [])) []:=by
 obtain⟨e,he⟩:=und_sl sl_cls
 have h:=den37 (.lit (.slice none 0 0)) (by simp) (v:=.pv (.lit (.slice none 0 0))) (h':=[]) (by
  unfold T37
  rw[Den]
  refine .inl ?_
  rw[Den,exN]
  exact⟨bin_nile he none 0,by simp[nm]⟩)
 exact Sem.forget h rfl
theorem clo_emp37(a:Option Addr)(c:Nat)(hv:emptyV (.slice a 0 c)=true):Sem Tryz.prog 37 [.pv (.lit (.slice a 0 c))] [] (.pv (.rows [])) []:=by
 obtain⟨e,he⟩:=und_sl sl_cls
 cases a with
 |none=>
  have h:=den37 (.lit (.slice none 0 c)) (by simp) (v:=.pv (.lit (.slice none 0 0))) (h':=[]) (by
   unfold T37
   rw[Den]
   refine .inl ?_
   rw[Den,exN]
   exact⟨bin_nile he none c,by simp[nm]⟩)
  exact Sem.forget h rfl
 |some a=>
  have h:=den37 (.lit (.slice (some a) 0 c)) (by simp) (v:=.trows 0 []) (h':=[.tok 77 6 0]) (by
   unfold T37
   rw[Den]
   refine .inr ?_
   rw[Den,exN]
   refine⟨bin_nile he (some a) c,?_⟩
   rw[Den]
   refine .inr ?_
   rw[Den,exN]
   exact⟨app0_ok sl_cls (s:=.pv (.rows [])) (x:=.pv (.lit (.slice (some a) 0 c))) rfl rfl,by
    have h0:dl (nm [PV.lit (Value.slice (some a) 0 c)]) 0=0:=dl_small (by unfold symBase;omega)
    simp[nm]
    exact⟨h0.symm,by rw[h0];unfold symBase;omega⟩⟩)
  exact Sem.forget h rfl
theorem clo_rows37(c:List PV)(es:List (List PV))(hn:NS (.rows (c::es)))(hs:∀x∈c::es,x.length=6)(hl:(c::es).length≤1000000000):Sem Tryz.prog 37 [.pv (.rows (c::es))] [] (.pv (.rows (c::es))) []:=by
 obtain⟨e,he⟩:=und_sl sl_cls
 have ha:AppOk Tryz.prog 24 (.pv (.rows [])) (.pv (.rows (c::es))) (.rows (c::es)):=(app_ok sl_cls (s:=.pv (.rows [])) (x:=.pv (.rows (c::es))) rfl rfl (by simp) hs (by simp only[List.length_nil]at *;omega) (by simp only[List.length_nil]at *;omega)).2 rfl
 have h:=den37 (.rows (c::es)) (by simpa using hn) (v:=.trows 0 (c::es)) (h':=[.tok 77 6 (dl (nm [.rows (c::es),.rows (c::es)]) (symBase+1))]) (by
  unfold T37
  rw[Den]
  refine .inr ?_
  rw[Den,exN]
  refine⟨bin_nilr he c es,?_⟩
  rw[Den]
  refine .inl ?_
  rw[Den,exN]
  refine⟨.rows (c::es),?_⟩
  rw[exN]
  exact⟨⟨ha,by
   have h0:dl (nm [PV.rows (c::es),PV.rows (c::es)]) (symBase+1)=(c::es).length:=dl_sym rfl
   simp[nm]
   rw[h0];unfold symBase;omega⟩,hn⟩)
 exact Sem.forget h rfl
theorem clone_cls(l:List Cl)(hl:l.length≤1000000000):Sem Tryz.prog 37 [.pv (cls l)] [] (.pv (cls l)) []:=by
 cases l with
 |cons x l=>exact clo_rows37 _ _ (ns_cls (x::l)) (by intro c hc;rw[←List.map_cons (f:=Cl.cells),List.mem_map]at hc;obtain⟨y,_,rfl⟩:=hc;rfl) (by simpa using hl)
 |nil=>
  intro R K w us hK hW hus
  have hu:=hus
  obtain⟨h1,h2⟩:=hus
  obtain⟨u,rfl⟩:∃u,us=[u]:=by
   cases us with
   |nil=>cases h1
   |cons u us=>cases us with
    |nil=>exact⟨u,rfl⟩
    |cons _ _=>simp at h1
  have hv:=h2 0 (by simp) (by simp)
  simp only[List.getElem_cons_zero]at hv
  cases hv with
  |pv hp=>
   change PR _ _ (.rows []) _ at hp
   cases hp with
   |rows _ a cap g off sz us' ha hn hsz hc hr=>
    cases hev:emptyV (.slice a 0 cap) with
    |true=>exact clo_emp37 a cap hev R K w _ hK hW (VL.single (.pv (.lit _ rfl)))
    |false=>
     have:a=none∧cap=0:=by
      cases a with
      |some a=>cases hev
      |none=>cases cap with
       |zero=>exact⟨rfl,rfl⟩
       |succ c=>cases hev
     obtain⟨rfl,rfl⟩:=this
     exact clo_nil37 R K w _ hK hW (VL.single (.pv (.lit _ rfl)))
theorem den38(x0:PV)(hn:NSL [x0]){v:AV}{h':List AObj}(hd:Den Tryz.prog Tryz.f38 T38 [x0] (.ret v h')):Sem Tryz.prog 38 [.pv x0] [] v h':=
 fun_rule f38_at f38_body mixed f38_tab (args:=A38) (h:=H38) (by kernel_rfl) c38 rfl hn (by simp only[A38,TsAs,TsA,nm,isRow,List.getD_cons_zero,List.getD_cons_succ,and_self,and_true]) (by trivial) hd
theorem clo_nil38:Sem Tryz.prog 38 [.pv (.lit (.slice none 0 0))] [] (.pv (.rows [])) []:=by
 obtain⟨e,he⟩:=und_sl sl_its
 have h:=den38 (.lit (.slice none 0 0)) (by simp) (v:=.pv (.lit (.slice none 0 0))) (h':=[]) (by
  unfold T38
  rw[Den]
  refine .inl ?_
  rw[Den,exN]
  exact⟨bin_nile he none 0,by simp[nm]⟩)
 exact Sem.forget h rfl
theorem clo_emp38(a:Option Addr)(c:Nat)(hv:emptyV (.slice a 0 c)=true):Sem Tryz.prog 38 [.pv (.lit (.slice a 0 c))] [] (.pv (.rows [])) []:=by
 obtain⟨e,he⟩:=und_sl sl_its
 cases a with
 |none=>
  have h:=den38 (.lit (.slice none 0 c)) (by simp) (v:=.pv (.lit (.slice none 0 0))) (h':=[]) (by
   unfold T38
   rw[Den]
   refine .inl ?_
   rw[Den,exN]
   exact⟨bin_nile he none c,by simp[nm]⟩)
  exact Sem.forget h rfl
 |some a=>
  have h:=den38 (.lit (.slice (some a) 0 c)) (by simp) (v:=.trows 0 []) (h':=[.tok 81 8 0]) (by
   unfold T38
   rw[Den]
   refine .inr ?_
   rw[Den,exN]
   refine⟨bin_nile he (some a) c,?_⟩
   rw[Den]
   refine .inr ?_
   rw[Den,exN]
   exact⟨app0_ok sl_its (s:=.pv (.rows [])) (x:=.pv (.lit (.slice (some a) 0 c))) rfl rfl,by
    have h0:dl (nm [PV.lit (Value.slice (some a) 0 c)]) 0=0:=dl_small (by unfold symBase;omega)
    simp[nm]
    exact⟨h0.symm,by rw[h0];unfold symBase;omega⟩⟩)
  exact Sem.forget h rfl
theorem clo_rows38(c:List PV)(es:List (List PV))(hn:NS (.rows (c::es)))(hs:∀x∈c::es,x.length=8)(hl:(c::es).length≤1000000000):Sem Tryz.prog 38 [.pv (.rows (c::es))] [] (.pv (.rows (c::es))) []:=by
 obtain⟨e,he⟩:=und_sl sl_its
 have ha:AppOk Tryz.prog 25 (.pv (.rows [])) (.pv (.rows (c::es))) (.rows (c::es)):=(app_ok sl_its (s:=.pv (.rows [])) (x:=.pv (.rows (c::es))) rfl rfl (by simp) hs (by simp only[List.length_nil]at *;omega) (by simp only[List.length_nil]at *;omega)).2 rfl
 have h:=den38 (.rows (c::es)) (by simpa using hn) (v:=.trows 0 (c::es)) (h':=[.tok 81 8 (dl (nm [.rows (c::es),.rows (c::es)]) (symBase+1))]) (by
  unfold T38
  rw[Den]
  refine .inr ?_
  rw[Den,exN]
  refine⟨bin_nilr he c es,?_⟩
  rw[Den]
  refine .inl ?_
  rw[Den,exN]
  refine⟨.rows (c::es),?_⟩
  rw[exN]
  exact⟨⟨ha,by
   have h0:dl (nm [PV.rows (c::es),PV.rows (c::es)]) (symBase+1)=(c::es).length:=dl_sym rfl
   simp[nm]
   rw[h0];unfold symBase;omega⟩,hn⟩)
 exact Sem.forget h rfl
theorem clone_its(l:List It)(hl:l.length≤1000000000):Sem Tryz.prog 38 [.pv (its l)] [] (.pv (its l)) []:=by
 cases l with
 |cons x l=>exact clo_rows38 _ _ (ns_its (x::l)) (by intro c hc;rw[←List.map_cons (f:=It.cells),List.mem_map]at hc;obtain⟨y,_,rfl⟩:=hc;rfl) (by simpa using hl)
 |nil=>
  intro R K w us hK hW hus
  have hu:=hus
  obtain⟨h1,h2⟩:=hus
  obtain⟨u,rfl⟩:∃u,us=[u]:=by
   cases us with
   |nil=>cases h1
   |cons u us=>cases us with
    |nil=>exact⟨u,rfl⟩
    |cons _ _=>simp at h1
  have hv:=h2 0 (by simp) (by simp)
  simp only[List.getElem_cons_zero]at hv
  cases hv with
  |pv hp=>
   change PR _ _ (.rows []) _ at hp
   cases hp with
   |rows _ a cap g off sz us' ha hn hsz hc hr=>
    cases hev:emptyV (.slice a 0 cap) with
    |true=>exact clo_emp38 a cap hev R K w _ hK hW (VL.single (.pv (.lit _ rfl)))
    |false=>
     have:a=none∧cap=0:=by
      cases a with
      |some a=>cases hev
      |none=>cases cap with
       |zero=>exact⟨rfl,rfl⟩
       |succ c=>cases hev
     obtain⟨rfl,rfl⟩:=this
     exact clo_nil38 R K w _ hK hW (VL.single (.pv (.lit _ rfl)))
end Go.Proofs.YtjpjcjnacnlhdaaGreat
