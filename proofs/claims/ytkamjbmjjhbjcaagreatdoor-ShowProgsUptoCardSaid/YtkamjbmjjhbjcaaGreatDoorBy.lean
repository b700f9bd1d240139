/- Joined texts. -/
import Derived.Test.YtkamjbmjjhbjcaaGreatDoorSy0
import Derived.KernelRfl
import Derived.Test.YtkamjbmjjhbjcaaGreatDoorJt1
import Derived.Test.YtkamjbmjjhbjcaaGreatDoorBl
import Derived.Test.YtkamjbmjjhbjcaaGreatDoorBc
import Derived.Test.YtkamjbmjjhbjcaaGreatDoorBg
import Derived.Test.YtkamjbmjjhbjcaaGreatDoorBe
set_option linter.unusedVariables false
set_option linter.unusedSimpArgs false
set_option linter.unusedSectionVars false
namespace Go.Proofs.YtkamjbmjjhbjcaaGreatDoor
open Go.RowKit
def T5:Tr:=.alt (.call ⟨6,[],[],.pv (.lit (.bool true)),[]⟩ 0 (.alt (.call ⟨18,[.agg [.pv (.sym 0),.pv (.sym 1),.pv (.sym 2),.pv (.sym 3)]],[],.pv (.lit (.bool true)),[]⟩ 0 (.alt (.call ⟨19,[.agg [.pv (.sym 0),.pv (.sym 1),.pv (.sym 2),.pv (.sym 3)]],[],.pv (.lit (.bool true)),[]⟩ 0 (.alt (.call ⟨20,[.agg [.pv (.sym 0),.pv (.sym 1),.pv (.sym 2),.pv (.sym 3)]],[],.pv (.lit (.bool true)),[]⟩ 0 (.call ⟨21,[.agg [.pv (.sym 0),.pv (.sym 1),.pv (.sym 2),.pv (.sym 3)]],[],.pv (.sym 4),[]⟩ 1 (.call ⟨22,[.agg [.pv (.sym 0),.pv (.sym 1),.pv (.sym 2),.pv (.sym 3)]],[],.pv (.sym 5),[]⟩ 1 (.alt (.say (.bin .eql 9 (.pv (.sym 4)) (.pv (.sym 5)) (.pv (.lit (.bool true)))) 0 (.ret (.pv (.lit (.bool true))) [])) (.say (.bin .eql 9 (.pv (.sym 4)) (.pv (.sym 5)) (.pv (.lit (.bool false)))) 0 (.ret (.pv (.lit (.bool false))) [])))))) (.call ⟨20,[.agg [.pv (.sym 0),.pv (.sym 1),.pv (.sym 2),.pv (.sym 3)]],[],.pv (.lit (.bool false)),[]⟩ 0 (.ret (.pv (.lit (.bool false))) [])))) (.call ⟨19,[.agg [.pv (.sym 0),.pv (.sym 1),.pv (.sym 2),.pv (.sym 3)]],[],.pv (.lit (.bool false)),[]⟩ 0 (.alt (.call ⟨20,[.agg [.pv (.sym 0),.pv (.sym 1),.pv (.sym 2),.pv (.sym 3)]],[],.pv (.lit (.bool true)),[]⟩ 0 (.ret (.pv (.lit (.bool false))) [])) (.call ⟨20,[.agg [.pv (.sym 0),.pv (.sym 1),.pv (.sym 2),.pv (.sym 3)]],[],.pv (.lit (.bool false)),[]⟩ 0 (.call ⟨21,[.agg [.pv (.sym 0),.pv (.sym 1),.pv (.sym 2),.pv (.sym 3)]],[],.pv (.sym 4),[]⟩ 1 (.alt (.say (.bin .eql 9 (.pv (.sym 4)) (.pv (.lit (.string ⟨#[]⟩))) (.pv (.lit (.bool true)))) 0 (.ret (.pv (.lit (.bool true))) [])) (.say (.bin .eql 9 (.pv (.sym 4)) (.pv (.lit (.string ⟨#[]⟩))) (.pv (.lit (.bool false)))) 0 (.ret (.pv (.lit (.bool false))) []))))))))) (.call ⟨18,[.agg [.pv (.sym 0),.pv (.sym 1),.pv (.sym 2),.pv (.sym 3)]],[],.pv (.lit (.bool false)),[]⟩ 0 (.ret (.pv (.lit (.bool true))) [])))) (.call ⟨6,[],[],.pv (.lit (.bool false)),[]⟩ 0 (.ret (.pv (.lit (.bool false))) []))
def A5:List AV:=[.agg [.pv (.sym 0),.pv (.sym 1),.pv (.sym 2),.pv (.sym 3)]]
def H5:List AObj:=[]
set_option maxRecDepth 100000 in
theorem c5:chk Tryz.prog (leafF Tryz.prog t5 5 A5 H5) T5 4 [] [] []=true:=by kernel_rfl
theorem F5(x0:PV)(x1:PV)(x2:PV)(x3:PV)(hn:NSL [x0,x1,x2,x3]){v:AV}{h':List AObj}(hd:Den Tryz.prog Tryz.f5 T5 [x0,x1,x2,x3] (.ret v h')) :
  Sem Tryz.prog 5 [.agg [.pv x0,.pv x1,.pv x2,.pv x3]] [] v h':=
 fun_rule f5_at f5_body mixed f5_tab (args:=A5) (h:=H5) (by kernel_rfl) c5 rfl hn (by simp only[A5,TsAs,TsA,nm,isRow,List.getD_cons_zero,List.getD_cons_succ,and_self,and_true]) (by trivial) hd
theorem step_below{K:Kn}{h:List AObj}{w w':World}(W:WR K h w)(hb:Below w.heap.size w w'):Step K h w K h w':=by
 have hk:∀i g,K.mu i=some g→w'.heap[g]? = w.heap[g]?:=fun i g hm=>hb.block g (W.lt i g hm)
 have hag:∀g o v,K.M g o=some v→g<w.heap.size:=by
  intro g o v hm
  apply Decidable.byContradiction
  intro hn
  rw[W.noM (by omega)] at hm
  cases hm
 refine⟨⟨W.fresh,W.has,fun i g hm=>Nat.lt_of_lt_of_le (W.lt i g hm) hb.size,fun i ty cells hi=>?_,fun i ks vs hi=>?_,fun t ty sz len ht=>?_,W.inj,W.apart,fun g o v hm=>?_⟩,Ext.refl K,⟨hb.os,hb.tape,hb.output,hb.size,fun k hk _=>hb.block k hk⟩,fun _ _=>⟨rfl,rfl⟩,fun _ _ _ _=>rfl,fun _ _ h=>.inl h,fun _ h _=>h,Nat.le_refl _⟩
 ·obtain⟨g,cs,h1,h2,h3⟩:=W.box i ty cells hi
  exact⟨g,cs,h1,by rw[hk i g h1];exact h2,h3⟩
 ·obtain⟨g,ents,clock,h1,h2,h3⟩:=W.map i ks vs hi
  exact⟨g,ents,clock,h1,by rw[hk i g h1];exact h2,h3⟩
 ·obtain⟨g,cs,h1,h2,h3⟩:=W.tok t ty sz len ht
  exact⟨g,cs,h1,by rw[hk t g h1];exact h2,h3⟩
 ·rw[World.cell?_of_block (hb.block g (hag g o v hm))];exact W.agr g o v hm
def strsOf:List AV→Option (List ByteArray)
 |[]=>some []
 |.pv (.lit (.string b))::l=>match strsOf l with
  |some r=>some (b::r)
  |none=>none
 |_::_=>none
theorem strsOf_get:∀{l:List AV} {xs:List ByteArray},strsOf l=some xs→xs.length=l.length∧∀(j:Nat) x,xs[j]? = some x→l[j]? = some (.pv (.lit (.string x)))
 |[],xs,h=>by cases h;exact⟨rfl,fun j x hx=>by simp at hx⟩
 |a::l,xs,h=>by
  unfold strsOf at h
  split at h
  ·rename_i e;cases e
  ·rename_i b l' e
   cases e
   split at h
   ·rename_i r hr
    cases h
    obtain⟨h1,h2⟩:=strsOf_get hr
    refine⟨by simp[h1],fun j x hx=>?_⟩
    cases j with
    |zero=>simp at hx;subst hx;rfl
    |succ j=>exact h2 j x (by simpa using hx)
   ·cases h
  ·cases h
def joinV(xs:List ByteArray)(sep:ByteArray):ByteArray:=⟨(Lib.join (xs.map (·.data.toList)) sep.data.toList).toArray⟩
def spJ(args:List AV)(h:List AObj):Option (AV×List AObj):=match args with
 |[.sl o lo len 1,.pv (.lit (.string sep))]=>match h[o]? with
  |some (.box _ cells)=>match Nat.ble (lo+len) cells.length&&Nat.ble len 1000000 with
   |true=>match strsOf ((cells.drop lo).take len) with
    |some xs=>match Nat.ble (Lib.join (xs.map (·.data.toList)) sep.data.toList).length 140737488355328 with
     |true=>some (.pv (.lit (.string (joinV xs sep))),h)
     |false=>none
    |none=>none
   |false=>none
  |_=>none
 |[.pv (.lit (.slice none 0 0)),.pv (.lit (.string sep))]=>some (.pv (.lit (.string ⟨#[]⟩)),h)
 |_=>none
theorem two_vals{K:Kn}{a b:AV}{us:List Value}(hv:VL K [a,b] us):∃u v,us=[u,v]∧VR K a u∧VR K b v:=by
 obtain⟨hl,hh⟩:=hv
 match us,hl with
 |[u,v],_=>exact⟨u,v,rfl,hh 0 (by simp) (by simp),hh 1 (by simp) (by simp)⟩
theorem lit_val{K:Kn}{v u:Value}(h:VR K (.pv (.lit v)) u):u=v:=by
 cases h with
 |pv h=>cases h;rfl
theorem spJ_ok(R:Nat→PV){args:List AV}{h:List AObj}{v:AV}{h':List AObj}(he:spJ args h=some (v,h')):CallOk R Tryz.prog 97 args h v h':=by
 unfold spJ at he
 split at he
 ·rename_i o lo len sep
  split at he
  ·rename_i ty cells hc
   split at he
   ·rename_i hb
    split at he
    ·rename_i xs hx
     split at he
     ·rename_i hj
      cases he
      intro K w us hR W hv
      obtain⟨u,s,rfl,h1,h2⟩:=two_vals hv
      have h2:=lit_val h2
      subst h2
      obtain⟨hlen,hget⟩:=strsOf_get hx
      rw[Bool.and_eq_true] at hb
      have hb2:=Nat.le_of_ble_eq_true hb.2
      have hb:=Nat.le_of_ble_eq_true hb.1
      have hl:xs.length=len:=by rw[hlen,List.length_take,List.length_drop];omega
      cases h1 with
      |sl _ _ _ _ g cap off hm hE hlc hz hof=>
       obtain⟨g',cs,m1,m2,m3,m4⟩:=W.box o ty cells hc
       rw[hm] at m1
       cases m1
       have hcells:∀(j:Nat) x,xs[j]? = some x→w.cell? ⟨g,off+j,none⟩=some (.string x):=by
        intro j x hxj
        have hjl:j<xs.length:=(List.getElem?_eq_some_iff.1 hxj).1
        have hoff:off=lo:=by rw[hof (by omega)];omega
        have h3:=hget j x hxj
        rw[List.getElem?_take_of_lt (by omega),List.getElem?_drop] at h3
        obtain⟨q1,q2⟩:=List.getElem?_eq_some_iff.1 h3
        have q3:lo+j<(cs.toList.take cells.length).length:=by rw[←m4.1];exact q1
        have q4:=m4.2 (lo+j) q1 q3
        rw[q2] at q4
        have q5:=lit_val q4
        rw[List.getElem_take] at q5
        have q6:lo+j<cs.size:=by rw[List.length_take] at q3;simp at q3;omega
        subst hoff
        simp only[World.cell?,m2]
        rw[Array.getElem?_eq_getElem q6]
        exact congrArg some (by simpa using q5)
       have hcall:=Tryz.strings_Join g off cap xs sep w hcells (W.lt o g hm) (by omega) (by omega) (Nat.le_of_ble_eq_true hj)
       rw[hl] at hcall
       refine hcall.mono fun e w' ⟨q,hbl⟩=>?_
       subst q
       exact⟨K,⟨_,rfl,.pv (.lit _ rfl)⟩,step_below W hbl⟩
     ·cases he
    ·cases he
   ·cases he
  ·cases he
 ·rename_i sep
  cases he
  intro K w us hR W hv
  obtain⟨u,s,rfl,h1,h2⟩:=two_vals hv
  have h1:=lit_val h1
  have h2:=lit_val h2
  subst h1
  subst h2
  refine(Tryz.strings_Join_none none 0 sep w).mono fun e w' ⟨q,hw⟩=>?_
  subst q
  subst hw
  exact⟨K,⟨_,rfl,.pv (.lit _ rfl)⟩,Step.refl W⟩
 ·cases he
def spT(args:List AV)(h:List AObj):Option (AV×List AObj):=match args,h with
 |[.pv (.lit (.int .i64 n))],[]=>match decide (0≤n∧n<4611686018427387904) with
  |true=>some (.pv (.lit (.string (digs n.toNat))),[])
  |false=>none
 |_,_=>none
theorem spT_ok(R:Nat→PV){args:List AV}{h:List AObj}{v:AV}{h':List AObj}(he:spT args h=some (v,h')):CallOk R Tryz.prog 43 args h v h':=by
 unfold spT at he
 split at he
 ·rename_i n
  split at he
  ·rename_i hd
   cases he
   have hd:=of_decide_eq_true hd
   exact sem_pure (vs:=[.int .i64 n]) (fun a ha=>by rw[List.mem_singleton.1 ha];rfl) rfl (fun w _=>Lx.txt_any n hd.1 hd.2 w) R
  ·cases he
 ·cases he
def spI(args:List AV)(h:List AObj):Option (AV×List AObj):=match args,h with
 |[.pv (.lit (.string s)),.pv (.lit (.int .u8 c))],[]=>some (.pv (.lit (.int .i64 (Lib.indexByte s.data.toList c.toNat.toUInt8))),[])
 |_,_=>none
theorem spI_ok(R:Nat→PV){args:List AV}{h:List AObj}{v:AV}{h':List AObj}(he:spI args h=some (v,h')):CallOk R Tryz.prog 175 args h v h':=by
 unfold spI at he
 split at he
 ·rename_i s c
  cases he
  refine sem_pure (vs:=[.string s,.int .u8 c]) (fun a ha=>?_) rfl (fun w _=>(Tryz.strings_IndexByte s c w).mono fun e w' ⟨q,hw⟩=>⟨q,hw ▸ Below.refl _ _⟩) R
  simp only[List.mem_cons,List.not_mem_nil,or_false] at ha
  rcases ha with rfl|rfl<;>rfl
 ·cases he
def spK(f:Nat)(args:List AV)(h:List AObj):Option (AV×List AObj):=match Nat.beq f 97 with
 |true=>spJ args h
 |false=>match Nat.beq f 43 with
  |true=>spT args h
  |false=>match Nat.beq f 175 with
   |true=>spI args h
   |false=>none
theorem spK_ok(R:Nat→PV):CallsOk R Tryz.prog spK:=by
 intro f args h v h' he
 unfold spK at he
 split at he
 ·rename_i hf
  rw[Nat.eq_of_beq_eq_true hf]
  exact spJ_ok R he
 ·split at he
  ·rename_i hf
   rw[Nat.eq_of_beq_eq_true hf]
   exact spT_ok R he
  ·split at he
   ·rename_i hf
    rw[Nat.eq_of_beq_eq_true hf]
    exact spI_ok R he
   ·cases he
set_option maxRecDepth 100000 in
theorem awake_run:evalF Tryz.prog okT tabT spK 100000 60 6 [] []=some (.pv (.lit (.bool true)),[]):=by kernel_rfl
theorem awake_sem:Sem Tryz.prog 6 [] [] (.pv (bv true)) []:=fun R=>evalF_sound (spK_ok R) okT_ok tabT_ok (fun _=>rfl) mixed 60 _ _ _ _ _ awake_run
theorem ev_fx{q:Q}{r:Rs}{ent:Ent}{sh:Shape}{args:List AV}{h h':List AObj}{v:AV}(he:EE q.k=ent)(hl:ent.lp=none)(hs:shp SS EE q.k r.1=sh)(ha:openAVs (nm q.xs) ent.args=args)(hh:openH (nm q.xs) ent.h=h)(hv:openAV (nm r.2) sh.v=v)(hh':openH (nm r.2) sh.h=h')
  (hn:q.xs.length=ent.n) (hr:ent.rin=[]) (hns:NSL q.xs) (h0:ev q=some r):Sem Tryz.prog ent.f args h v h'∧NSL r.2:=by
 obtain⟨h1,h2⟩:=ev_sound h0 ⟨by rw[he];exact hn,hns,by rw[he,hr];intro i hi;cases hi⟩
 refine⟨?_,h2.ns⟩
 unfold SemQ at h1
 rw[he,hl] at h1
 simp only at h1
 rw[hs,ha,hh,hv,hh'] at h1
 exact h1
abbrev proA(a:List Dt)(b:List Cl)(c:List It)(d:List Bd):AV:=.agg [.pv (dts a),.pv (cls b),.pv (its c),.pv (bds d)]
theorem sem_few(a:List Dt)(b:List Cl)(c:List It)(d:List Bd){v:PV}(h:ev (q18 (dts a) (cls b) (its c) (bds d))=some (0,[v])):Sem Tryz.prog 18 [proA a b c d] [] (.pv v) []:=
 (ev_fx (q:=q18 (dts a) (cls b) (its c) (bds d)) (r:=(0,[v])) (ent:=eF 18 y7 [] 4 188) (sh:=yU o0 1) (by kernel_rfl) rfl (by kernel_rfl) rfl rfl rfl rfl rfl rfl (by simp[NSL_cons,NSL_nil]) h).1
theorem sem_gp(a:List Dt)(b:List Cl)(c:List It)(d:List Bd){v:PV}(h:ev (q19 (dts a) (cls b) (its c) (bds d))=some (0,[v])):Sem Tryz.prog 19 [proA a b c d] [] (.pv v) []:=
 (ev_fx (q:=q19 (dts a) (cls b) (its c) (bds d)) (r:=(0,[v])) (ent:=eF 19 y7 [] 4 195) (sh:=yU o0 1) (by kernel_rfl) rfl (by kernel_rfl) rfl rfl rfl rfl rfl rfl (by simp[NSL_cons,NSL_nil]) h).1
theorem sem_rp(a:List Dt)(b:List Cl)(c:List It)(d:List Bd){v:PV}(h:ev (q20 (dts a) (cls b) (its c) (bds d))=some (0,[v])):Sem Tryz.prog 20 [proA a b c d] [] (.pv v) []:=
 (ev_fx (q:=q20 (dts a) (cls b) (its c) (bds d)) (r:=(0,[v])) (ent:=eF 20 y7 [] 4 147) (sh:=yU o0 1) (by kernel_rfl) rfl (by kernel_rfl) rfl rfl rfl rfl rfl rfl (by simp[NSL_cons,NSL_nil]) h).1
theorem sem_sp(a:List Dt)(b:List Cl)(c:List It)(d:List Bd){v:PV}(h:ev (q21 (dts a) (cls b) (its c) (bds d))=some (0,[v])):Sem Tryz.prog 21 [proA a b c d] [] (.pv v) []:=
 (ev_fx (q:=q21 (dts a) (cls b) (its c) (bds d)) (r:=(0,[v])) (ent:=eF 21 y7 [] 4 154) (sh:=yU o0 1) (by kernel_rfl) rfl (by kernel_rfl) rfl rfl rfl rfl rfl rfl (by simp[NSL_cons,NSL_nil]) h).1
theorem sem_pp(a:List Dt)(b:List Cl)(c:List It)(d:List Bd){v:PV}(h:ev (q22 (dts a) (cls b) (its c) (bds d))=some (0,[v])):Sem Tryz.prog 22 [proA a b c d] [] (.pv v) []:=
 (ev_fx (q:=q22 (dts a) (cls b) (its c) (bds d)) (r:=(0,[v])) (ent:=eF 22 y7 [] 4 212) (sh:=yU o0 1) (by kernel_rfl) rfl (by kernel_rfl) rfl rfl rfl rfl rfl rfl (by simp[NSL_cons,NSL_nil]) h).1
theorem law_sem(a:List Dt)(b:List Cl)(c:List It)(d:List Bd)(hz:Dt.sizes a+Cl.sizes b+It.sizes c+Bd.sizes d≤1048576):Sem Tryz.prog 5 [proA a b c d] [] (.pv (bv true)) []:=by
 have sa:=awake_sem
 obtain⟨bs,hbs⟩:=few_x a b c d (by omega)
 have s1:=sem_few a b c d hbs
 have s2:=sem_gp a b c d (rg_prog a b c d (by omega))
 have s3:=sem_rp a b c d (pg_prog a b c d (by omega))
 have s4:=sem_sp a b c d (pprog_x a b c d (by omega))
 refine F5 (dts a) (cls b) (its c) (bds d) (by simp[NSL_cons,NSL_nil]) ?_
 unfold T5
 rw[Den]
 refine .inl ?_
 rw[Den,exN]
 refine⟨⟨sa,trivial,trivial⟩,?_⟩
 rw[Den]
 cases bs
 ·refine .inr ?_
  rw[Den,exN]
  refine⟨⟨s1,trivial,trivial⟩,?_⟩
  rw[Den]
  exact⟨rfl,by simp only[TsAs,TsA,and_self],trivial⟩
 ·refine .inl ?_
  rw[Den,exN]
  refine⟨⟨s1,trivial,trivial⟩,?_⟩
  rw[Den]
  cases hg:progGood a b c d
  ·rw[hg] at s2 s3 s4
   simp only[Bool.false_eq_true,if_false] at s4
   refine .inr ?_
   rw[Den,exN]
   refine⟨⟨s2,trivial,trivial⟩,?_⟩
   rw[Den]
   refine .inr ?_
   rw[Den,exN]
   refine⟨⟨s3,trivial,trivial⟩,?_⟩
   rw[Den]
   simp only[exN,List.append_assoc,List.cons_append,List.nil_append]
   refine⟨sv eB,⟨⟨s4,trivial,trivial⟩,?_⟩,by simp⟩
   rw[Den]
   refine .inl ?_
   rw[Den,exN]
   refine⟨bin_eqs.2 (by simp),?_⟩
   rw[Den]
   exact⟨rfl,by simp only[TsAs,TsA,and_self],trivial⟩
  ·rw[hg] at s2 s3 s4
   simp only[if_true] at s4
   have s5:=sem_pp a b c d (rprog_x a b c d (by omega) hg)
   refine .inl ?_
   rw[Den,exN]
   refine⟨⟨s2,trivial,trivial⟩,?_⟩
   rw[Den]
   refine .inl ?_
   rw[Den,exN]
   refine⟨⟨s3,trivial,trivial⟩,?_⟩
   rw[Den]
   simp only[exN,List.append_assoc,List.cons_append,List.nil_append]
   refine⟨sv (progT a b c d),⟨⟨s4,trivial,trivial⟩,?_⟩,by simp⟩
   rw[Den]
   simp only[exN,List.append_assoc,List.cons_append,List.nil_append]
   refine⟨sv (progT a b c d),⟨⟨s5,trivial,trivial⟩,?_⟩,by simp⟩
   rw[Den]
   refine .inl ?_
   rw[Den,exN]
   refine⟨bin_eqs.2 (by simp),?_⟩
   rw[Den]
   exact⟨rfl,by simp only[TsAs,TsA,and_self],trivial⟩
end Go.Proofs.YtkamjbmjjhbjcaaGreatDoor
