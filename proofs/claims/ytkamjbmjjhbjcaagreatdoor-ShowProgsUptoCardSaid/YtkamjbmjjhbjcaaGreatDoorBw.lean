/- Joined texts. -/
import Derived.Test.YtkamjbmjjhbjcaaGreatDoorBu
set_option linter.unusedVariables false
set_option linter.unusedSimpArgs false
set_option linter.unusedSectionVars false
namespace Go.Proofs.YtkamjbmjjhbjcaaGreatDoor
open Go.RowKit
structure SPb(x:Ex):Prop where
 part:ev (q77b (iv x.kind) (sv x.name) (iv x.n) (iv x.t.kind) (sv x.t.name) (iv x.t.n) (tys x.t.kids) (exs x.kids) (als x.alts) (bds x.binds) (iv x.at_))=some (0,[sv (part (pr true x)).1,iv (((part (pr true x)).2:Nat):Int)])
 app:x.kind=5→ev (q119b (iv x.kind) (sv x.name) (iv x.n) (iv x.t.kind) (sv x.t.name) (iv x.t.n) (tys x.t.kids) (exs x.kids) (als x.alts) (bds x.binds) (iv x.at_))=some (0,[sv ((pr true x).2.ap).1,iv ((((pr true x).2.ap).2:Nat):Int)])
 arg:ev (q154b (iv x.kind) (sv x.name) (iv x.n) (iv x.t.kind) (sv x.t.name) (iv x.t.n) (tys x.t.kids) (exs x.kids) (als x.alts) (bds x.binds) (iv x.at_))=some (0,[sv (arg (pr true x)).1,iv (((arg (pr true x)).2:Nat):Int)])
 ff:∀o:ByteArray,ev (q150c (iv x.kind) (sv x.name) (iv x.n) (iv x.t.kind) (sv x.t.name) (iv x.t.n) (tys x.t.kids) (exs x.kids) (als x.alts) (bds x.binds) (iv x.at_) (sv o))=some (0,[sv (opd true (pr true x) o false false).1,iv (((opd true (pr true x) o false false).2:Nat):Int)])
 tt:∀o:ByteArray,ev (q150d (iv x.kind) (sv x.name) (iv x.n) (iv x.t.kind) (sv x.t.name) (iv x.t.n) (tys x.t.kids) (exs x.kids) (als x.alts) (bds x.binds) (iv x.at_) (sv o))=some (0,[sv (opd true (pr true x) o true true).1,iv (((opd true (pr true x) o true true).2:Nat):Int)])
 tf:∀o:ByteArray,ev (q150f (iv x.kind) (sv x.name) (iv x.n) (iv x.t.kind) (sv x.t.name) (iv x.t.n) (tys x.t.kids) (exs x.kids) (als x.alts) (bds x.binds) (iv x.at_) (sv o))=some (0,[sv (opd true (pr true x) o true false).1,iv (((opd true (pr true x) o true false).2:Nat):Int)])
theorem casb(l:List Al)(hl:l.length≤2000000)(ia:∀y∈l,y.p.good=true∧y.e.good=true∧SPb y.e∧y.size≤1100000)(s:Tx)(m:Nat)(hm:Ok m s)(hB:m+8*Al.sizes l≤9500000) :
  ev (q151bb1a (iv 0) (iv l.length) (als l) (sv s.1) (iv (s.2:Int)))=some (1,[sv (casT (l.map (Al.rc true)) 0 s).1,iv (((casT (l.map (Al.rc true)) 0 s).2:Nat):Int),e0,i0]):=
 loop_ev l (fun i s a=>if i=0 then jn s (a.rc true) else jn (jn s (tkB wBar)) (a.rc true)) (fun l i s=>casT (l.map (Al.rc true)) i s) (fun i s=>by rw[List.map_nil,casT]) (fun x l i s=>by rw[List.map_cons,casT]) (fun i s=>∃m,Ok m s∧m+8*Al.sizes (l.drop i)≤9500000) (fun i s=>q151bb1a (iv (i:Int)) (iv l.length) (als l) (sv s.1) (iv (s.2:Int))) (fun s=>(1,[sv s.1,iv (s.2:Int),e0,i0])) hl (fun i j a s e0 hj hx hmm hi hd hI=>by
  obtain⟨m,hm,hB⟩:=hI
  rw[hd,Al.sizes] at hB
  obtain⟨hp,he,hsp,hz⟩:=ia a hmm
  have h5:=a.size_eq
  have hok:=al_ok true hp he
  have hbar:Ok 1 (tkB wBar):=Ok.tkB (by decide) (by decide)
  have harr:Ok 1 (tkB sArr):=Ok.tkB (by decide) (by decide)
  have hpo:=part_ok true he
  have hao:=pat_ok hp
  have p1:=hsp.part
  have p2:=showpat_x a.p (by omega) hp
  have p3:=p_levP 2000000 a.p (by omega) (Nat.le_refl _)
  unfold PLevP at p3
  have t1:=tok1 sArr (by decide)
  have t2:=tok1 wBar (by decide)
  have hao':=hao.lt (by omega)
  have hpo':=hpo.lt (by omega)
  have hm':=hm.lt (by omega)
  rw[a.rc_eq] at hok ⊢
  by_cases h0:i=0
  ·have hr:=hm.jn hok
   have j1:ev (q147 (.rows [[sv s.1,iv (s.2:Int)],[sv a.p.txt,iv (a.p.lev:Int)],[sv sArr,iv 0],[sv (part (pr true a.e)).1,iv ((part (pr true a.e)).2:Int)]]))=some (0,[sv (jn s (jn (a.p.txt,a.p.lev) (jn (tkB sArr) (part (pr true a.e))))).1,iv (((jn s (jn (a.p.txt,a.p.lev) (jn (tkB sArr) (part (pr true a.e))))).2:Nat):Int)]):=join4 s (a.p.txt,a.p.lev) (tkB sArr) (part (pr true a.e)) ⟨by omega,by omega,Nat.zero_le _,by omega⟩ (by have:=hr.lt (by omega);omega)
   have hi0:¬(0:Int)<(i:Int):=by omega
   have hi1:¬0<i:=by omega
   rw[if_pos h0]
   refine⟨⟨_,hr,by omega⟩,?_⟩
   rw[h151bb1a,g151bb1a]
   simp[hi,hi0,hi1,idxK_als hx,p1,p2,p3,t1,j1,e0]
  ·have hr:=(hm.jn hbar).jn hok
   have hsb:=(hm.jn hbar).lt (by omega)
   have j0:ev (q147 (.rows [[sv s.1,iv (s.2:Int)],[sv wBar,iv 0]]))=some (0,[sv (jn s (tkB wBar)).1,iv (((jn s (tkB wBar)).2:Nat):Int)]):=join2 s (tkB wBar) ⟨by omega,Nat.zero_le _⟩ (by omega)
   have j1:ev (q147 (.rows [[sv (jn s (tkB wBar)).1,iv ((jn s (tkB wBar)).2:Int)],[sv a.p.txt,iv (a.p.lev:Int)],[sv sArr,iv 0],[sv (part (pr true a.e)).1,iv ((part (pr true a.e)).2:Int)]]))=some (0,[sv (jn (jn s (tkB wBar)) (jn (a.p.txt,a.p.lev) (jn (tkB sArr) (part (pr true a.e))))).1,iv (((jn (jn s (tkB wBar)) (jn (a.p.txt,a.p.lev) (jn (tkB sArr) (part (pr true a.e))))).2:Nat):Int)]):=join4 (jn s (tkB wBar)) (a.p.txt,a.p.lev) (tkB sArr) (part (pr true a.e)) ⟨by omega,by omega,Nat.zero_le _,by omega⟩ (by have:=hr.lt (by omega);omega)
   have hi0:(0:Int)<(i:Int):=by omega
   have hi1:0<i:=by omega
   rw[if_neg h0]
   refine⟨⟨_,hr,by omega⟩,?_⟩
   rw[h151bb1a,g151bb1a]
   simp[hi,hi0,hi1,idxK_als hx,p1,p2,p3,t1,t2,j0,j1,e0]) (fun s hI=>by
  rw[h151bb1a,g151bb1a]
  simp) s ⟨m,hm,by rw[List.drop_zero];exact hB⟩
theorem letb(x:Ex)(l:List Bd)(hl:l.length≤2000000)(ib:∀y∈l,nameB y.name=true∧y.e.good=true∧SPb y.e∧y.size≤1100000)(w:ByteArray)(hw:w.size≤7)(s:Tx)(hB:8*Bd.sizes l≤9500000) :
  ev (q153bb1a (iv 0) (iv l.length) (bds l) (sv w) (sv s.1) (iv (s.2:Int)) (iv x.kind) (sv x.name) (iv x.n) (iv x.t.kind) (sv x.t.name) (iv x.t.n) (tys x.t.kids) (exs x.kids) (als x.alts) (bds x.binds) (iv x.at_))=some (1,[sv (letT (l.map (Bd.rc true)) 0 (w,s)).2.1,iv (((letT (l.map (Bd.rc true)) 0 (w,s)).2.2:Nat):Int),iv x.kind,sv x.name,iv x.n,iv x.t.kind,sv x.t.name,iv x.t.n,tys x.t.kids,exs x.kids,als x.alts,bds x.binds,iv x.at_,e0,i0]):=
 loop_ev l (fun i (s:ByteArray×Tx) b=>if i=0 then(s.1,jn (tkB (defT s.1 (b.rc true).1)) (b.rc true).2) else(wAnd,jn s.2 (jn (tkB (defT wAnd (b.rc true).1)) (b.rc true).2))) (fun l i s=>letT (l.map (Bd.rc true)) i s) (fun i s=>by rw[List.map_nil,letT]) (fun x l i s=>by rw[List.map_cons,letT]) (fun i s=>s.1.size≤7∧(i=0∨∃m,Ok m s.2∧m+8*Bd.sizes (l.drop i)≤9500000)) (fun i s=>q153bb1a (iv (i:Int)) (iv l.length) (bds l) (sv s.1) (sv s.2.1) (iv (s.2.2:Int)) (iv x.kind) (sv x.name) (iv x.n) (iv x.t.kind) (sv x.t.name) (iv x.t.n) (tys x.t.kids) (exs x.kids) (als x.alts) (bds x.binds) (iv x.at_)) (fun s=>(1,[sv s.2.1,iv (s.2.2:Int),iv x.kind,sv x.name,iv x.n,iv x.t.kind,sv x.t.name,iv x.t.n,tys x.t.kids,exs x.kids,als x.alts,bds x.binds,iv x.at_,e0,i0])) hl (fun i j b s e0 hj hx hmm hi hd hI=>by
  obtain⟨hw,hI⟩:=hI
  obtain⟨hn,he,hsp,hz⟩:=ib b hmm
  have h5:=b.size_eq
  have hpo:=part_ok true he
  have hpo':=hpo.lt (by omega)
  have p1:=hsp.part
  have p2:=name_x b.name (by omega)
  have hbok:=fun(w:ByteArray) (hw:w.size≤7)=>bd_ok true (b:=b) hw hpo
  rw[b.rc_eq] at hbok ⊢
  have hnz:=nmB_size b.name
  have e1:∀w:ByteArray,w.size≤7→ev (q148 (.rows [[sv w],[sv (nmB b.name)],[sv wEq]]))=some (0,[sv (defT w (nmB b.name)),iv 0]):=fun w hw=>tok3 w (nmB b.name) wEq (by have:=defT_size w (nmB b.name);unfold defT at this;omega)
  have j0:∀w:ByteArray,w.size≤7→ev (q147 (.rows [[sv (defT w (nmB b.name)),iv 0],[sv (part (pr true b.e)).1,iv ((part (pr true b.e)).2:Int)]]))=some (0,[sv (jn (tkB (defT w (nmB b.name))) (part (pr true b.e))).1,iv (((jn (tkB (defT w (nmB b.name))) (part (pr true b.e))).2:Nat):Int)]):=fun w hw=>join2 (tkB (defT w (nmB b.name))) (part (pr true b.e)) ⟨Nat.zero_le _,by omega⟩ (by have:=(hbok w hw).lt (by omega);exact Nat.le_trans this.1 (by decide))
  by_cases h0:i=0
  ·rw[if_pos h0]
   have hd2:Bd.sizes l=b.size+Bd.sizes (l.drop j):=by rw[h0] at hd;rw[List.drop_zero] at hd;conv=>lhs;rw[hd,Bd.sizes]
   have hi0:¬(0:Int)<(i:Int):=by omega
   have hi1:¬0<i:=by omega
   have a1:=e1 s.1 hw
   have a2:=j0 s.1 hw
   have a3:=hbok s.1 hw
   refine⟨⟨hw,.inr ⟨_,a3,by omega⟩⟩,?_⟩
   rw[h153bb1a,g153bb1a]
   simp[hi,hi0,hi1,idxK_bds hx,p1,p2,a1,a2,e0]
  ·rw[if_neg h0]
   obtain⟨m,hm,hB⟩:=hI.resolve_left h0
   rw[hd,Bd.sizes] at hB
   have hi0:(0:Int)<(i:Int):=by omega
   have hi1:0<i:=by omega
   have a1:=e1 wAnd (by decide)
   have a2:=j0 wAnd (by decide)
   have a3:=hbok wAnd (by decide)
   have a4:=hm.jn a3
   have a4':=a4.lt (by omega)
   have a3':=a3.lt (by omega)
   have hm':=hm.lt (by omega)
   have a5:ev (q147 (.rows [[sv s.2.1,iv (s.2.2:Int)],[sv (jn (tkB (defT wAnd (nmB b.name))) (part (pr true b.e))).1,iv ((jn (tkB (defT wAnd (nmB b.name))) (part (pr true b.e))).2:Int)]]))=some (0,[sv (jn s.2 (jn (tkB (defT wAnd (nmB b.name))) (part (pr true b.e)))).1,iv (((jn s.2 (jn (tkB (defT wAnd (nmB b.name))) (part (pr true b.e)))).2:Nat):Int)]):=join2 s.2 (jn (tkB (defT wAnd (nmB b.name))) (part (pr true b.e))) ⟨by omega,Nat.le_trans a3'.2 (by decide)⟩ (Nat.le_trans a4'.1 (by decide))
   refine⟨⟨(show wAnd.size≤7 by decide),.inr ⟨_,a4,by omega⟩⟩,?_⟩
   rw[h153bb1a,g153bb1a]
   simp[hi,hi0,hi1,idxK_bds hx,p1,p2,a1,a2,a5,e0]) (fun s hI=>by
  rw[h153bb1a,g153bb1a]
  simp) (w,s) ⟨hw,.inl rfl⟩
theorem atomb(x:Ex)(hg:x.good=true)(hz:x.size≤1100000)(ik:∀y∈x.kids,SPb y)(ia:∀y∈x.alts,SPb y.e)(hia:isAtom x=true):ev (q151b (iv x.kind) (sv x.name) (iv x.n) (iv x.t.kind) (sv x.t.name) (iv x.t.n) (tys x.t.kids) (exs x.kids) (als x.alts) (bds x.binds) (iv x.at_))=some (0,[sv ((pr true x).2.at_).1,iv ((((pr true x).2.at_).2:Nat):Int)]):=by
 have hok:=(ok_pr true x.size x (Nat.le_refl _) hg).2.2.2.2
 have e1:8*(pr true x).1.size=8*x.size:=rfl
 rw[e1] at hok
 obtain⟨hl1,hl2,hl3,hs,hts⟩:=x.len_ok (by omega)
 have hsz:=x.size_eq
 rw[pr_at] at hok ⊢
 unfold atT at hok ⊢
 by_cases k1:x.kind=1
 ·rw[if_pos k1] at hok ⊢
  obtain⟨n0,n1⟩:=Ex.num_ok hg k1
  have t:=txt_x x.n n0 n1
  have t1:=tok1 (digs x.n.toNat) (by have:=digs_size x.n.toNat;omega)
  refine Evl.of ?_
  rw[h151b,g151b]
  simp[k1,t,t1,tkB]
 rw[if_neg k1] at hok ⊢
 by_cases k2:x.kind=2
 ·rw[if_pos k2] at hok ⊢
  have t:=quo_x x.name (by omega)
  have t1:=tok1 (quoB x.name) (by have:=quoB_size x.name;omega)
  refine Evl.of ?_
  rw[h151b,g151b]
  simp[k1,k2,t,t1,tkB]
 rw[if_neg k2] at hok ⊢
 by_cases k8:x.kind=8
 ·obtain⟨a,hk⟩:=Ex.good_one hg (.inr (.inr (.inl k8)))
  have hga:=Ex.good_kid hg (y:=a) (by rw[hk];simp)
  have pa:=(ik a (by rw[hk];simp)).part
  have hpo:=part_ok true hga
  rw[hk,sizes1] at hsz
  rw[if_pos k8,hk,kd0] at hok ⊢
  have o1:Ok 1 (tkB wCase):=Ok.tkB (by decide) (by decide)
  have o2:Ok 1 (tkB wOf):=Ok.tkB (by decide) (by decide)
  have o3:Ok 1 (tkB wEnd):=Ok.tkB (by decide) (by decide)
  have hS:=o1.jn (hpo.jn o2)
  have hpo':=hpo.lt (by omega)
  have hS':=hS.lt (by omega)
  have hC:=casT_ok true x.alts 0 _ _ hS (fun y hy=>al_ok true (Ex.good_alt hg hy).1 (Ex.good_alt hg hy).2)
  have hC':=hC.lt (by omega)
  have t1:=tok1 wCase (by decide)
  have t2:=tok1 wOf (by decide)
  have t3:=tok1 wEnd (by decide)
  have lp:=casb x.alts hl2 (fun y hy=>⟨(Ex.good_alt hg hy).1,(Ex.good_alt hg hy).2,ia y hy,by have:=Al.mem_le hy;omega⟩) (jn (tkB wCase) (jn (part (pr true a)) (tkB wOf))) _ hS (by omega)
  generalize casT (x.alts.map (Al.rc true)) 0 (jn (tkB wCase) (jn (part (pr true a)) (tkB wOf)))=C at *
  have j1:ev (q147 (.rows [[sv wCase,iv 0],[sv (part (pr true a)).1,iv ((part (pr true a)).2:Int)],[sv wOf,iv 0]]))=some (0,[sv (jn (tkB wCase) (jn (part (pr true a)) (tkB wOf))).1,iv (((jn (tkB wCase) (jn (part (pr true a)) (tkB wOf))).2:Nat):Int)]):=join3 (tkB wCase) (part (pr true a)) (tkB wOf) ⟨Nat.zero_le _,by omega,Nat.zero_le _⟩ (by omega)
  have j2:ev (q147 (.rows [[sv C.1,iv (C.2:Int)],[sv wEnd,iv 0]]))=some (0,[sv (jn C (tkB wEnd)).1,iv (((jn C (tkB wEnd)).2:Nat):Int)]):=join2 C (tkB wEnd) ⟨by omega,Nat.zero_le _⟩ (Nat.le_trans (hok.lt (by omega)).1 (by decide))
  refine Evl.of ?_
  rw[h151b,g151b]
  simp[k8,hk,ixE0,pa,t1,t2,t3,j1,j2,lp]
 rw[if_neg k8] at hok ⊢
 by_cases k12:x.kind=12
 ·obtain⟨a,hk⟩:=Ex.good_one hg (.inr (.inr (.inr k12)))
  have hga:=Ex.good_kid hg (y:=a) (by rw[hk];simp)
  have hgt:=Ex.good_t hg k12
  have pa:=(ik a (by rw[hk];simp)).part
  have hpo:=part_ok true hga
  rw[hk,sizes1] at hsz
  rw[if_pos k12,hk,kd0] at hok ⊢
  have hpo':=hpo.lt (by omega)
  have hto':=(typ_ok hgt).lt (by omega)
  have t1:=tok1 sL1 (by decide)
  have t2:=tok1 wCol (by decide)
  have t3:=tok1 sR1 (by decide)
  have t4:=showtype_x x.t (by omega) hgt
  have t5:=p_levT 2000000 x.t (by omega) (Nat.le_refl _)
  unfold PLevT at t5
  have j1:ev (q147 (.rows [[sv sL1,iv 0],[sv (part (pr true a)).1,iv ((part (pr true a)).2:Int)],[sv wCol,iv 0],[sv x.t.txt,iv (x.t.lev:Int)],[sv sR1,iv 0]]))=some (0,[sv (jn (tkB sL1) (jn (part (pr true a)) (jn (tkB wCol) (jn (x.t.txt,x.t.lev) (tkB sR1))))).1,iv (((jn (tkB sL1) (jn (part (pr true a)) (jn (tkB wCol) (jn (x.t.txt,x.t.lev) (tkB sR1))))).2:Nat):Int)]):=join5 (tkB sL1) (part (pr true a)) (tkB wCol) (x.t.txt,x.t.lev) (tkB sR1) ⟨Nat.zero_le _,by omega,Nat.zero_le _,by omega,Nat.zero_le _⟩ (Nat.le_trans (hok.lt (by omega)).1 (by decide))
  refine Evl.of ?_
  rw[h151b,g151b]
  simp[k12,hk,ixE0,pa,t1,t2,t3,t4,t5,j1]
 rw[if_neg k12] at hok ⊢
 have k34:x.kind=3∨x.kind=4:=by
  have:=Ex.good_kind hg
  unfold isAtom isOpen at hia
  apply Decidable.byContradiction
  intro hn
  have:x.kind=5∨x.kind=6∨x.kind=7∨x.kind=9∨x.kind=10∨x.kind=11:=by omega
  rcases this with h|h|h|h|h|h<;>(rw[h] at hia;simp at hia)
 rw[if_pos k34]
 have t:=name_x x.name (by omega)
 have t1:=tok1 (nmB x.name) (by have:=nmB_size x.name;omega)
 refine Evl.of ?_
 rw[h151b,g151b]
 simp[k1,k2,k8,k12,t,t1,tkB]
theorem appb(x:Ex)(hg:x.good=true)(hz:x.size≤1100000)(ik:∀y∈x.kids,SPb y)(k5:x.kind=5):ev (q119b (iv x.kind) (sv x.name) (iv x.n) (iv x.t.kind) (sv x.t.name) (iv x.t.n) (tys x.t.kids) (exs x.kids) (als x.alts) (bds x.binds) (iv x.at_))=some (0,[sv ((pr true x).2.ap).1,iv ((((pr true x).2.ap).2:Nat):Int)]):=by
 have hok:=(ok_pr true x.size x (Nat.le_refl _) hg).2.2.2.1
 have e1:8*(pr true x).1.size=8*x.size:=rfl
 rw[e1] at hok
 have hsz:=x.size_eq
 rw[pr_ap,if_pos k5] at hok ⊢
 unfold apT at hok ⊢
 obtain⟨a,b,hk⟩:=Ex.good_two hg (.inl k5)
 have sa:=ik a (by rw[hk];simp)
 have pb:=(ik b (by rw[hk];simp)).arg
 have hga:=Ex.good_kid hg (y:=a) (by rw[hk];simp)
 have hgb:=Ex.good_kid hg (y:=b) (by rw[hk];simp)
 have oa:=ok_arg (ok_pr true a.size a (Nat.le_refl _) hga)
 have ob:=ok_arg (ok_pr true b.size b (Nat.le_refl _) hgb)
 have op:=(ok_pr true a.size a (Nat.le_refl _) hga).2.2.2.1
 have e2:(pr true a).1.size=a.size:=rfl
 have e3:(pr true b).1.size=b.size:=rfl
 rw[e2] at oa op
 rw[e3] at ob
 rw[hk,sizes2] at hsz
 rw[hk,kd0,kd1] at hok ⊢
 have oa':=oa.lt (by omega)
 have ob':=ob.lt (by omega)
 have op':=op.lt (by omega)
 by_cases d5:(pr true a).1.kind=5
 ·have d6:a.kind=5:=d5
  have pa:=sa.app d6
  rw[if_pos d5] at hok ⊢
  have j1:=join2 (pr true a).2.ap (arg (pr true b)) ⟨by omega,by omega⟩ (Nat.le_trans (hok.lt (by omega)).1 (by decide))
  refine Evl.of ?_
  rw[h119b,g119b]
  rw[d6] at pa
  simp[hk,ixE0,ixE1,d6,pa,pb,j1]
 ·have d6:¬a.kind=5:=d5
  have pa:=sa.arg
  rw[if_neg d5] at hok ⊢
  have j1:=join2 (arg (pr true a)) (arg (pr true b)) ⟨by omega,by omega⟩ (Nat.le_trans (hok.lt (by omega)).1 (by decide))
  refine Evl.of ?_
  rw[h119b,g119b]
  simp[hk,ixE0,ixE1,d6,pa,pb,j1]
theorem opnb(x:Ex)(hg:x.good=true)(hz:x.size≤1100000)(ik:∀y∈x.kids,SPb y)(ib:∀y∈x.binds,SPb y.e)(ho:isOpen x=true):ev (q153b (iv x.kind) (sv x.name) (iv x.n) (iv x.t.kind) (sv x.t.name) (iv x.t.n) (tys x.t.kids) (exs x.kids) (als x.alts) (bds x.binds) (iv x.at_))=some (0,[sv ((pr true x).2.op).1,iv ((((pr true x).2.op).2:Nat):Int)]):=by
 have hok:=(ok_pr true x.size x (Nat.le_refl _) hg).1
 have e1:8*(pr true x).1.size=8*x.size:=rfl
 rw[e1] at hok
 obtain⟨hl1,hl2,hl3,hs,hts⟩:=x.len_ok (by omega)
 have hsz:=x.size_eq
 rw[pr_op] at hok ⊢
 unfold opT at hok ⊢
 by_cases k6:x.kind=6
 ·obtain⟨a,hk⟩:=Ex.good_one hg (.inl k6)
  have hga:=Ex.good_kid hg (y:=a) (by rw[hk];simp)
  have pa:=(ik a (by rw[hk];simp)).part
  have hpo:=part_ok true hga
  rw[hk,sizes1] at hsz
  rw[if_pos k6,hk,kd0] at hok ⊢
  have hpo':=hpo.lt (by omega)
  have t1:ev (q148 (.rows [[sv wLam],[sv x.name],[sv sArr]]))=some (0,[sv (lamT x.name),iv 0]):=tok3 wLam x.name sArr (by simp only[ByteArray.size_append];have e1:wLam.size=1:=rfl;have e2:sSp.size=1:=rfl;have e3:sArr.size=2:=rfl;omega)
  have j1:ev (q147 (.rows [[sv (lamT x.name),iv 0],[sv (part (pr true a)).1,iv ((part (pr true a)).2:Int)]]))=some (0,[sv (jn (tkB (lamT x.name)) (part (pr true a))).1,iv (((jn (tkB (lamT x.name)) (part (pr true a))).2:Nat):Int)]):=join2 (tkB (lamT x.name)) (part (pr true a)) ⟨Nat.zero_le _,by omega⟩ (Nat.le_trans (hok.lt (by omega)).1 (by decide))
  refine Evl.of ?_
  rw[h153b,g153b]
  simp[k6,hk,ixE0,pa,t1,j1]
 rw[if_neg k6] at hok ⊢
 by_cases k9:x.kind=9
 ·obtain⟨a,b,c,hk⟩:=Ex.good_three hg k9
  have hga:=Ex.good_kid hg (y:=a) (by rw[hk];simp)
  have hgb:=Ex.good_kid hg (y:=b) (by rw[hk];simp)
  have hgc:=Ex.good_kid hg (y:=c) (by rw[hk];simp)
  have pa:=(ik a (by rw[hk];simp)).part
  have pb:=(ik b (by rw[hk];simp)).part
  have pc:=(ik c (by rw[hk];simp)).part
  rw[hk,sizes3] at hsz
  rw[if_pos k9,hk,kd0,kd1,kd2] at hok ⊢
  have oa':=(part_ok true hga).lt (by omega)
  have ob':=(part_ok true hgb).lt (by omega)
  have oc':=(part_ok true hgc).lt (by omega)
  have t1:=tok1 wIf (by decide)
  have t2:=tok1 wThen (by decide)
  have t3:=tok1 wElse (by decide)
  have j1:ev (q147 (.rows [[sv wIf,iv 0],[sv (part (pr true a)).1,iv ((part (pr true a)).2:Int)],[sv wThen,iv 0],[sv (part (pr true b)).1,iv ((part (pr true b)).2:Int)],[sv wElse,iv 0],[sv (part (pr true c)).1,iv ((part (pr true c)).2:Int)]]))=some (0,[sv (jn (tkB wIf) (jn (part (pr true a)) (jn (tkB wThen) (jn (part (pr true b)) (jn (tkB wElse) (part (pr true c))))))).1,iv (((jn (tkB wIf) (jn (part (pr true a)) (jn (tkB wThen) (jn (part (pr true b)) (jn (tkB wElse) (part (pr true c))))))).2:Nat):Int)]):=join6 (tkB wIf) (part (pr true a)) (tkB wThen) (part (pr true b)) (tkB wElse) (part (pr true c)) ⟨Nat.zero_le _,by omega,Nat.zero_le _,by omega,Nat.zero_le _,by omega⟩ (Nat.le_trans (hok.lt (by omega)).1 (by decide))
  refine Evl.of ?_
  rw[h153b,g153b]
  simp[k6,k9,hk,ixE0,ixE1,ixE2,pa,pb,pc,t1,t2,t3,j1]
 rw[if_neg k9] at hok ⊢
 have k7:x.kind=7:=by
  unfold isOpen at ho
  by_cases h:x.kind=7
  ·exact h
  ·rw[if_neg k6,if_neg h] at ho
   exact absurd (of_decide_eq_true ho) k9
 obtain⟨a,hk⟩:=Ex.good_one hg (.inr (.inl k7))
 have hga:=Ex.good_kid hg (y:=a) (by rw[hk];simp)
 have pa:=(ik a (by rw[hk];simp)).part
 have hpo:=part_ok true hga
 rw[hk,sizes1] at hsz
 rw[if_pos k7,hk,kd0] at hok ⊢
 have hpo':=hpo.lt (by omega)
 have t0:=tok0
 have t1:=tok1 wIn (by decide)
 have hlet:=fun(w:ByteArray) (hw:w.size≤7)=>letb x x.binds hl3 (fun y hy=>⟨(Ex.good_bind hg hy).1,(Ex.good_bind hg hy).2,ib y hy,by have:=Bd.mem_le hy;omega⟩) w hw (tkB eB) (by omega)
 have hlo:=fun(w:ByteArray) (hw:w.size≤7)=>letT_ok0 true x.binds w (tkB eB) hw ((Ex.good_bl hg).2 k7) (fun y hy=>part_ok true (Ex.good_bind hg hy).2)
 by_cases kn:x.n=1
 ·rw[if_pos kn] at hok ⊢
  have lp:ev (q153bb1a (iv 0) (iv x.binds.length) (bds x.binds) (sv wRec) (sv eB) (iv 0) (iv x.kind) (sv x.name) (iv x.n) (iv x.t.kind) (sv x.t.name) (iv x.t.n) (tys x.t.kids) (exs x.kids) (als x.alts) (bds x.binds) (iv x.at_))=_:=hlet wRec (by decide)
  have ll:=(hlo wRec (by decide)).lt (by omega)
  generalize (letT (x.binds.map (Bd.rc true)) 0 (wRec,tkB eB)).2=C at *
  have j1:ev (q147 (.rows [[sv C.1,iv (C.2:Int)],[sv wIn,iv 0],[sv (part (pr true a)).1,iv ((part (pr true a)).2:Int)]]))=some (0,[sv (jn C (jn (tkB wIn) (part (pr true a)))).1,iv (((jn C (jn (tkB wIn) (part (pr true a)))).2:Nat):Int)]):=join3 C (tkB wIn) (part (pr true a)) ⟨by omega,Nat.zero_le _,by omega⟩ (Nat.le_trans (hok.lt (by omega)).1 (by decide))
  rw[hk,kn,k7] at lp
  refine Evl.of ?_
  rw[h153b,g153b]
  simp[k6,k7,k9,kn,hk,ixE0,pa,t0,t1,lp,j1]
 ·rw[if_neg kn] at hok ⊢
  have lp:ev (q153bb1a (iv 0) (iv x.binds.length) (bds x.binds) (sv wLet) (sv eB) (iv 0) (iv x.kind) (sv x.name) (iv x.n) (iv x.t.kind) (sv x.t.name) (iv x.t.n) (tys x.t.kids) (exs x.kids) (als x.alts) (bds x.binds) (iv x.at_))=_:=hlet wLet (by decide)
  have ll:=(hlo wLet (by decide)).lt (by omega)
  generalize (letT (x.binds.map (Bd.rc true)) 0 (wLet,tkB eB)).2=C at *
  have j1:ev (q147 (.rows [[sv C.1,iv (C.2:Int)],[sv wIn,iv 0],[sv (part (pr true a)).1,iv ((part (pr true a)).2:Int)]]))=some (0,[sv (jn C (jn (tkB wIn) (part (pr true a)))).1,iv (((jn C (jn (tkB wIn) (part (pr true a)))).2:Nat):Int)]):=join3 C (tkB wIn) (part (pr true a)) ⟨by omega,Nat.zero_le _,by omega⟩ (Nat.le_trans (hok.lt (by omega)).1 (by decide))
  rw[hk,k7] at lp
  refine Evl.of ?_
  rw[h153b,g153b]
  simp[k6,k7,k9,kn,hk,ixE0,pa,t0,t1,lp,j1]
theorem bTb(x:Ex)(hg:x.good=true)(hz:x.size≤1100000)(is:∀y:Ex,y.size<x.size→y.good=true→SPb y)(ho:isOpen x=false):ev (q116b (iv x.kind) (sv x.name) (iv x.n) (iv x.t.kind) (sv x.t.name) (iv x.t.n) (tys x.t.kids) (exs x.kids) (als x.alts) (bds x.binds) (iv x.at_))=some (0,[sv ((pr true x).2.bt).1,iv ((((pr true x).2.bt).2:Nat):Int)]):=by
 have hok:=(ok_pr true x.size x (Nat.le_refl _) hg).2.1
 have e1:8*(pr true x).1.size=8*x.size:=rfl
 rw[e1] at hok
 rw[pr_bt] at hok ⊢
 by_cases hn:opE x=eB
 ·have hf:=inf_none x hg (by omega) hn
  unfold bT at hok ⊢
  rw[if_pos hn] at hok ⊢
  by_cases k5:x.kind=5
  ·have ha:=appb x hg hz (fun y hy=>is y (Ex.kid_size hy) (Ex.good_kid hg hy)) k5
   rw[pr_ap,if_pos k5] at ha
   rw[if_pos k5]
   rw[k5] at hf ha
   refine Evl.of ?_
   rw[h116b,g116b]
   simp[-m_D,↓D23_f hf,k5,ha]
  ·rw[if_neg k5]
   have hia:isAtom x=true:=by
    unfold isAtom
    rw[ho,if_neg (by decide),if_neg k5]
    unfold opE at hn
    by_cases c10:x.kind=10
    ·rw[if_pos c10] at hn;exact absurd hn (by decide)
    by_cases c11:x.kind=11
    ·rw[if_neg c10,if_pos c11] at hn;exact absurd hn (by decide)
    rw[if_neg c10]
    simpa using c11
   have ha:=atomb x hg hz (fun y hy=>is y (Ex.kid_size hy) (Ex.good_kid hg hy)) (fun y hy=>is y.e (Ex.alt_size hy).1 (Ex.good_alt hg hy).2) hia
   rw[pr_at] at ha
   refine Evl.of ?_
   rw[h116b,g116b]
   simp[-m_D,↓D23_f hf,k5,ha]
 ·obtain⟨a,b,hi⟩:=inf_of hg hn
  have hf:=inf_some x a b hg (by omega) hi
  have hm:=hi.mem
  obtain⟨ga,gb⟩:=hm.2 hg
  rw[hi.bT] at hok ⊢
  have sa:=(is a hm.1.1 ga).ff (opE x)
  have sb:=(is b hm.1.2.1 gb).tt (opE x)
  have oa:=ok_opd (ok_pr true a.size a (Nat.le_refl _) ga) true (opE x) false false
  have ob:=ok_opd (ok_pr true b.size b (Nat.le_refl _) gb) true (opE x) true true
  have e2:(pr true a).1.size=a.size:=rfl
  have e3:(pr true b).1.size=b.size:=rfl
  rw[e2] at oa
  rw[e3] at ob
  have oa':=oa.lt (by omega)
  have ob':=ob.lt (by omega)
  have t1:=tok1 (opE x) (by have h1:=(hok.lt (by omega)).1;unfold jn at h1;simp only[ByteArray.size_append] at h1;have:(tkB (opE x)).1=opE x:=rfl;rw[this] at h1;omega)
  generalize opd true (pr true a) (opE x) false false=A at *
  generalize opd true (pr true b) (opE x) true true=B at *
  have j1:ev (q147 (.rows [[sv A.1,iv (A.2:Int)],[sv (opE x),iv 0],[sv B.1,iv (B.2:Int)]]))=some (0,[sv (jn A (jn (tkB (opE x)) B)).1,iv (((jn A (jn (tkB (opE x)) B)).2:Nat):Int)]):=join3 A (tkB (opE x)) B ⟨by omega,Nat.zero_le _,by omega⟩ (Nat.le_trans (hok.lt (by omega)).1 (by decide))
  refine Evl.of ?_
  rw[h116b,g116b]
  simp[-m_D,↓D23_t hf,sa,sb,t1,j1]
theorem bFb(x:Ex)(hg:x.good=true)(hz:x.size≤1100000)(is:∀y:Ex,y.size<x.size→y.good=true→SPb y)(ho:isOpen x=false):ev (q116d (iv x.kind) (sv x.name) (iv x.n) (iv x.t.kind) (sv x.t.name) (iv x.t.n) (tys x.t.kids) (exs x.kids) (als x.alts) (bds x.binds) (iv x.at_))=some (0,[sv ((pr true x).2.bf).1,iv ((((pr true x).2.bf).2:Nat):Int)]):=by
 have hok:=(ok_pr true x.size x (Nat.le_refl _) hg).2.2.1
 have e1:8*(pr true x).1.size=8*x.size:=rfl
 rw[e1] at hok
 rw[pr_bf] at hok ⊢
 by_cases hn:opE x=eB
 ·have hf:=inf_none x hg (by omega) hn
  unfold bT at hok ⊢
  rw[if_pos hn] at hok ⊢
  by_cases k5:x.kind=5
  ·have ha:=appb x hg hz (fun y hy=>is y (Ex.kid_size hy) (Ex.good_kid hg hy)) k5
   rw[pr_ap,if_pos k5] at ha
   rw[if_pos k5]
   rw[k5] at hf ha
   refine Evl.of ?_
   rw[h116d,g116d]
   simp[-m_D,↓D23_f hf,k5,ha]
  ·rw[if_neg k5]
   have hia:isAtom x=true:=by
    unfold isAtom
    rw[ho,if_neg (by decide),if_neg k5]
    unfold opE at hn
    by_cases c10:x.kind=10
    ·rw[if_pos c10] at hn;exact absurd hn (by decide)
    by_cases c11:x.kind=11
    ·rw[if_neg c10,if_pos c11] at hn;exact absurd hn (by decide)
    rw[if_neg c10]
    simpa using c11
   have ha:=atomb x hg hz (fun y hy=>is y (Ex.kid_size hy) (Ex.good_kid hg hy)) (fun y hy=>is y.e (Ex.alt_size hy).1 (Ex.good_alt hg hy).2) hia
   rw[pr_at] at ha
   refine Evl.of ?_
   rw[h116d,g116d]
   simp[-m_D,↓D23_f hf,k5,ha]
 ·obtain⟨a,b,hi⟩:=inf_of hg hn
  have hf:=inf_some x a b hg (by omega) hi
  have hm:=hi.mem
  obtain⟨ga,gb⟩:=hm.2 hg
  rw[hi.bT] at hok ⊢
  have sa:=(is a hm.1.1 ga).ff (opE x)
  have sb:=(is b hm.1.2.1 gb).tf (opE x)
  have oa:=ok_opd (ok_pr true a.size a (Nat.le_refl _) ga) true (opE x) false false
  have ob:=ok_opd (ok_pr true b.size b (Nat.le_refl _) gb) true (opE x) true false
  have e2:(pr true a).1.size=a.size:=rfl
  have e3:(pr true b).1.size=b.size:=rfl
  rw[e2] at oa
  rw[e3] at ob
  have oa':=oa.lt (by omega)
  have ob':=ob.lt (by omega)
  have t1:=tok1 (opE x) (by have h1:=(hok.lt (by omega)).1;unfold jn at h1;simp only[ByteArray.size_append] at h1;have:(tkB (opE x)).1=opE x:=rfl;rw[this] at h1;omega)
  generalize opd true (pr true a) (opE x) false false=A at *
  generalize opd true (pr true b) (opE x) true false=B at *
  have j1:ev (q147 (.rows [[sv A.1,iv (A.2:Int)],[sv (opE x),iv 0],[sv B.1,iv (B.2:Int)]]))=some (0,[sv (jn A (jn (tkB (opE x)) B)).1,iv (((jn A (jn (tkB (opE x)) B)).2:Nat):Int)]):=join3 A (tkB (opE x)) B ⟨by omega,Nat.zero_le _,by omega⟩ (Nat.le_trans (hok.lt (by omega)).1 (by decide))
  refine Evl.of ?_
  rw[h116d,g116d]
  simp[-m_D,↓D23_t hf,sa,sb,t1,j1]
theorem wholeb(x:Ex)(hg:x.good=true)(hz:x.size≤1100000)(is:∀y:Ex,y.size<x.size→y.good=true→SPb y):ev (q118b (iv x.kind) (sv x.name) (iv x.n) (iv x.t.kind) (sv x.t.name) (iv x.t.n) (tys x.t.kids) (exs x.kids) (als x.alts) (bds x.binds) (iv x.at_))=some (0,[sv (whole (pr true x) true).1,iv (((whole (pr true x) true).2:Nat):Int)]):=by
 have h1:=open_x x
 unfold whole
 cases ho:isOpen x
 ·rw[ho] at h1
  have h2:=bTb x hg hz is ho
  have e:isOpen (pr true x).1=false:=ho
  rw[e,if_neg (by decide),if_pos rfl]
  refine Evl.of ?_
  rw[h118b,g118b]
  simp[h1,h2]
 ·rw[ho] at h1
  have h2:=opnb x hg hz (fun y hy=>is y (Ex.kid_size hy) (Ex.good_kid hg hy)) (fun y hy=>is y.e (Ex.bind_size hy).1 (Ex.good_bind hg hy).2) ho
  have e:isOpen (pr true x).1=true:=ho
  rw[e,if_pos rfl]
  refine Evl.of ?_
  rw[h118b,g118b]
  simp[h1,h2]
theorem plainb(x:Ex)(hg:x.good=true)(hz:x.size≤1100000)(is:∀y:Ex,y.size<x.size→y.good=true→SPb y)(ho:isOpen x=false):ev (q76b (iv x.kind) (sv x.name) (iv x.n) (iv x.t.kind) (sv x.t.name) (iv x.t.n) (tys x.t.kids) (exs x.kids) (als x.alts) (bds x.binds) (iv x.at_))=some (0,[sv (br (pr true x).2.bt).1,iv (((br (pr true x).2.bt).2:Nat):Int)]):=by
 have h2:=bTb x hg hz is ho
 have hok:=(ok_pr true x.size x (Nat.le_refl _) hg).2.1
 have e1:8*(pr true x).1.size=8*x.size:=rfl
 rw[e1] at hok
 have hl:=hok.lt (by omega)
 have hb:=hok.br.lt (by omega)
 have b1:=bracket_x (pr true x).2.bt (by omega) (by omega)
 refine Evl.of ?_
 rw[h76b,g76b]
 simp[h2,b1]
theorem grpb(x:Ex)(hg:x.good=true)(hz:x.size≤1100000)(is:∀y:Ex,y.size<x.size→y.good=true→SPb y)(ho:isOpen x=false):ev (q78a (iv x.kind) (sv x.name) (iv x.n) (iv x.t.kind) (sv x.t.name) (iv x.t.n) (tys x.t.kids) (exs x.kids) (als x.alts) (bds x.binds) (iv x.at_))=some (0,[sv (grp true (pr true x)).1,iv (((grp true (pr true x)).2:Nat):Int)]):=by
 unfold grp
 by_cases k5:x.kind=5
 ·have e:(pr true x).1.kind=5:=k5
  have h1:=appb x hg hz (fun y hy=>is y (Ex.kid_size hy) (Ex.good_kid hg hy)) k5
  rw[if_pos ⟨rfl,e⟩]
  rw[k5] at h1
  refine Evl.of ?_
  rw[h78a,g78a]
  simp[k5,h1]
 ·have e:¬(pr true x).1.kind=5:=k5
  have h1:=plainb x hg hz is ho
  rw[if_neg (fun h=>e h.2)]
  refine Evl.of ?_
  rw[h78a,g78a]
  simp[k5,h1]
theorem spb:∀(n:Nat) (x:Ex),x.size≤n→n≤1100000→x.good=true→SPb x:=by
 intro n
 induction n with
 |zero=>intro x h _ _;have:=x.size_pos;omega
 |succ n ih=>
  intro x h hn hg
  have hz:x.size≤1100000:=by omega
  have is:∀y:Ex,y.size<x.size→y.good=true→SPb y:=fun y hy hgy=>ih y (by omega) (by omega) hgy
  have hw:=wholeb x hg hz is
  have hok:=ok_pr true x.size x (Nat.le_refl _) hg
  have e1:(pr true x).1.size=x.size:=rfl
  have ow:=ok_whole hok true
  rw[e1] at ow
  have ow':=ow.lt (by omega)
  have ob':=ow.br.lt (by omega)
  have hop:=open_x x
  have hbr:=bracket_x (whole (pr true x) true) (by omega) (by omega)
  refine⟨?_,?_,?_,?_,?_,?_⟩
  ·have hl:=level_x (whole (pr true x) true) (by omega)
   unfold part
   refine Evl.of ?_
   rw[h77b,g77b]
   simp[hw,hl]
  ·intro k5
   exact appb x hg hz (fun y hy=>is y (Ex.kid_size hy) (Ex.good_kid hg hy)) k5
  ·unfold arg
   cases ho:isOpen x
   ·rw[ho] at hop
    by_cases k5:x.kind=5
    ·have e:isAtom (pr true x).1=false:=by show isAtom x=false;unfold isAtom;rw[ho,if_neg (by decide),if_pos k5]
     rw[e,if_neg (by decide)]
     rw[k5] at hop hw
     refine Evl.of ?_
     rw[h154b,g154b]
     simp[hop,k5,hw,hbr]
    by_cases k10:x.kind=10
    ·have e:isAtom (pr true x).1=false:=by show isAtom x=false;unfold isAtom;rw[ho,if_neg (by decide),if_neg k5,if_pos k10]
     rw[e,if_neg (by decide)]
     rw[k10] at hop hw
     refine Evl.of ?_
     rw[h154b,g154b]
     simp[hop,k10,hw,hbr]
    by_cases k11:x.kind=11
    ·have e:isAtom (pr true x).1=false:=by show isAtom x=false;unfold isAtom;rw[ho,if_neg (by decide),if_neg k5,if_neg k10];simp[k11]
     rw[e,if_neg (by decide)]
     rw[k11] at hop hw
     refine Evl.of ?_
     rw[h154b,g154b]
     simp[hop,k11,hw,hbr]
    ·have e:isAtom x=true:=by unfold isAtom;rw[ho,if_neg (by decide),if_neg k5,if_neg k10];simp[k11]
     have e':isAtom (pr true x).1=true:=e
     have ha:=atomb x hg hz (fun y hy=>is y (Ex.kid_size hy) (Ex.good_kid hg hy)) (fun y hy=>is y.e (Ex.alt_size hy).1 (Ex.good_alt hg hy).2) e
     rw[e',if_pos rfl]
     refine Evl.of ?_
     rw[h154b,g154b]
     simp[hop,k5,k10,k11,ha]
   ·rw[ho] at hop
    have e:isAtom (pr true x).1=false:=by show isAtom x=false;unfold isAtom;rw[ho,if_pos rfl]
    rw[e,if_neg (by decide)]
    refine Evl.of ?_
    rw[h154b,g154b]
    simp[hop,hw,hbr]
  ·intro o
   unfold opd
   cases ho:isOpen x
   ·rw[ho] at hop
    have e:isOpen (pr true x).1=false:=ho
    rw[e,if_neg (by decide)]
    have hb:=bFb x hg hz is ho
    by_cases hn:opE x=eB
    ·have hf:=inf_none x hg (by omega) hn
     have e2:¬(¬opE (pr true x).1=eB∧needs o (opE (pr true x).1) false=true):=fun h=>h.1 hn
     rw[if_neg e2,if_neg (by decide)]
     refine Evl.of ?_
     rw[h150c,g150c]
     simp[-m_D,↓D23_f hf,hop,hb]
    ·obtain⟨a,b,hi⟩:=inf_of hg hn
     have hf:=inf_some x a b hg (by omega) hi
     have hnd:=needs_g1 o (opE x)
     cases hq:needs o (opE x) false
     ·rw[hq] at hnd
      have e2:¬(¬opE (pr true x).1=eB∧needs o (opE (pr true x).1) false=true):=fun h=>by have h3:needs o (opE x) false=true:=h.2;rw[hq] at h3;cases h3
      rw[if_neg e2,if_neg (by decide)]
      refine Evl.of ?_
      rw[h150c,g150c]
      simp[-m_D,↓D23_t hf,hop,hnd,hb]
     ·rw[hq] at hnd
      have e2:¬opE (pr true x).1=eB∧needs o (opE (pr true x).1) false=true:=⟨hn,hq⟩
      have hgr:=grpb x hg hz is ho
      rw[if_pos e2]
      refine Evl.of ?_
      rw[h150c,g150c]
      simp[-m_D,↓D23_t hf,hop,hnd,hgr]
   ·rw[ho] at hop
    have e:isOpen (pr true x).1=true:=ho
    have h2:=opnb x hg hz (fun y hy=>is y (Ex.kid_size hy) (Ex.good_kid hg hy)) (fun y hy=>is y.e (Ex.bind_size hy).1 (Ex.good_bind hg hy).2) ho
    have ew:whole (pr true x) true=(pr true x).2.op:=by unfold whole;rw[e,if_pos rfl]
    rw[ew] at hbr
    rw[e,if_pos rfl,if_neg (by decide)]
    refine Evl.of ?_
    rw[h150c,g150c]
    simp[hop,h2,hbr]
  ·intro o
   unfold opd
   cases ho:isOpen x
   ·rw[ho] at hop
    have e:isOpen (pr true x).1=false:=ho
    rw[e,if_neg (by decide)]
    have hb:=bTb x hg hz is ho
    by_cases hn:opE x=eB
    ·have hf:=inf_none x hg (by omega) hn
     have e2:¬(¬opE (pr true x).1=eB∧needs o (opE (pr true x).1) true=true):=fun h=>h.1 hn
     rw[if_neg e2,if_pos rfl]
     refine Evl.of ?_
     rw[h150d,g150d]
     simp[-m_D,↓D23_f hf,hop,hb]
    ·obtain⟨a,b,hi⟩:=inf_of hg hn
     have hf:=inf_some x a b hg (by omega) hi
     have hnd:=needs_g0 o (opE x)
     cases hq:needs o (opE x) true
     ·rw[hq] at hnd
      have e2:¬(¬opE (pr true x).1=eB∧needs o (opE (pr true x).1) true=true):=fun h=>by have h3:needs o (opE x) true=true:=h.2;rw[hq] at h3;cases h3
      rw[if_neg e2,if_pos rfl]
      refine Evl.of ?_
      rw[h150d,g150d]
      simp[-m_D,↓D23_t hf,hop,hnd,hb]
     ·rw[hq] at hnd
      have e2:¬opE (pr true x).1=eB∧needs o (opE (pr true x).1) true=true:=⟨hn,hq⟩
      have hgr:=grpb x hg hz is ho
      rw[if_pos e2]
      refine Evl.of ?_
      rw[h150d,g150d]
      simp[-m_D,↓D23_t hf,hop,hnd,hgr]
   ·rw[ho] at hop
    have e:isOpen (pr true x).1=true:=ho
    have h2:=opnb x hg hz (fun y hy=>is y (Ex.kid_size hy) (Ex.good_kid hg hy)) (fun y hy=>is y.e (Ex.bind_size hy).1 (Ex.good_bind hg hy).2) ho
    have ew:whole (pr true x) true=(pr true x).2.op:=by unfold whole;rw[e,if_pos rfl]
    rw[ew] at hbr
    rw[e,if_pos rfl,if_pos ⟨rfl,rfl⟩]
    refine Evl.of ?_
    rw[h150d,g150d]
    simp[hop,h2]
  ·intro o
   unfold opd
   cases ho:isOpen x
   ·rw[ho] at hop
    have e:isOpen (pr true x).1=false:=ho
    rw[e,if_neg (by decide)]
    have hb:=bFb x hg hz is ho
    by_cases hn:opE x=eB
    ·have hf:=inf_none x hg (by omega) hn
     have e2:¬(¬opE (pr true x).1=eB∧needs o (opE (pr true x).1) true=true):=fun h=>h.1 hn
     rw[if_neg e2,if_neg (by decide)]
     refine Evl.of ?_
     rw[h150f,g150f]
     simp[-m_D,↓D23_f hf,hop,hb]
    ·obtain⟨a,b,hi⟩:=inf_of hg hn
     have hf:=inf_some x a b hg (by omega) hi
     have hnd:=needs_g0 o (opE x)
     cases hq:needs o (opE x) true
     ·rw[hq] at hnd
      have e2:¬(¬opE (pr true x).1=eB∧needs o (opE (pr true x).1) true=true):=fun h=>by have h3:needs o (opE x) true=true:=h.2;rw[hq] at h3;cases h3
      rw[if_neg e2,if_neg (by decide)]
      refine Evl.of ?_
      rw[h150f,g150f]
      simp[-m_D,↓D23_t hf,hop,hnd,hb]
     ·rw[hq] at hnd
      have e2:¬opE (pr true x).1=eB∧needs o (opE (pr true x).1) true=true:=⟨hn,hq⟩
      have hgr:=grpb x hg hz is ho
      rw[if_pos e2]
      refine Evl.of ?_
      rw[h150f,g150f]
      simp[-m_D,↓D23_t hf,hop,hnd,hgr]
   ·rw[ho] at hop
    have e:isOpen (pr true x).1=true:=ho
    have h2:=opnb x hg hz (fun y hy=>is y (Ex.kid_size hy) (Ex.good_kid hg hy)) (fun y hy=>is y.e (Ex.bind_size hy).1 (Ex.good_bind hg hy).2) ho
    have ew:whole (pr true x) true=(pr true x).2.op:=by unfold whole;rw[e,if_pos rfl]
    rw[ew] at hbr
    rw[e,if_pos rfl,if_neg (by decide)]
    refine Evl.of ?_
    rw[h150f,g150f]
    simp[hop,h2,hbr]
end Go.Proofs.YtkamjbmjjhbjcaaGreatDoor
