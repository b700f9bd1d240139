/- Joined texts. -/
import Derived.Test.YtkamjbmjjhbjcaaGreatDoorBx
set_option linter.unusedVariables false
set_option linter.unusedSimpArgs false
set_option linter.unusedSectionVars false
namespace Go.Proofs.YtkamjbmjjhbjcaaGreatDoor
open Go.RowKit
structure SRb(x:Ex):Prop where
 part:∀(S:ByteArray) (L M:Nat),okS S L M x.size→ev (q38b (iv x.kind) (sv x.name) (iv x.n) (iv x.t.kind) (sv x.t.name) (iv x.t.n) (tys x.t.kids) (exs x.kids) (als x.alts) (bds x.binds) (iv x.at_) (sv S) (iv (L:Int)) (iv (M:Int)))=some (0,rs bt S L M (part (pr true x)))
 app:x.kind=5→∀(S:ByteArray) (L M:Nat),okS S L M x.size→ev (q123b (iv x.kind) (sv x.name) (iv x.n) (iv x.t.kind) (sv x.t.name) (iv x.t.n) (tys x.t.kids) (exs x.kids) (als x.alts) (bds x.binds) (iv x.at_) (sv S) (iv (L:Int)) (iv (M:Int)))=some (0,rs bt S L M (pr true x).2.ap)
 arg:∀(S:ByteArray) (L M:Nat),okS S L M x.size→ev (q158b (iv x.kind) (sv x.name) (iv x.n) (iv x.t.kind) (sv x.t.name) (iv x.t.n) (tys x.t.kids) (exs x.kids) (als x.alts) (bds x.binds) (iv x.at_) (sv S) (iv (L:Int)) (iv (M:Int)))=some (0,rs bt S L M (arg (pr true x)))
 ff:∀(o:ByteArray) (S:ByteArray) (L M:Nat),okS S L M x.size→ev (q122c (iv x.kind) (sv x.name) (iv x.n) (iv x.t.kind) (sv x.t.name) (iv x.t.n) (tys x.t.kids) (exs x.kids) (als x.alts) (bds x.binds) (iv x.at_) (sv o) (sv S) (iv (L:Int)) (iv (M:Int)))=some (0,rs bt S L M (opd true (pr true x) o false false))
 tt:∀(o:ByteArray) (S:ByteArray) (L M:Nat),okS S L M x.size→ev (q122d (iv x.kind) (sv x.name) (iv x.n) (iv x.t.kind) (sv x.t.name) (iv x.t.n) (tys x.t.kids) (exs x.kids) (als x.alts) (bds x.binds) (iv x.at_) (sv o) (sv S) (iv (L:Int)) (iv (M:Int)))=some (0,rs bt S L M (opd true (pr true x) o true true))
 tf:∀(o:ByteArray) (S:ByteArray) (L M:Nat),okS S L M x.size→ev (q122f (iv x.kind) (sv x.name) (iv x.n) (iv x.t.kind) (sv x.t.name) (iv x.t.n) (tys x.t.kids) (exs x.kids) (als x.alts) (bds x.binds) (iv x.at_) (sv o) (sv S) (iv (L:Int)) (iv (M:Int)))=some (0,rs bt S L M (opd true (pr true x) o true false))
theorem rcasb(x:Ex)(l:List Al)(hx0:x.alts=l)(hl:l.length≤2000000)(ia:∀y∈l,y.p.good=true∧y.e.good=true∧SRb y.e∧y.size≤1100000)(s:Tx)(m:Nat)(hm:Ok m s)(hB:m+8*Al.sizes l≤9000000)(S:ByteArray)(L M:Nat)(hS:S.size+64*m+600*Al.sizes l+1000≤1000000000)(hL:L+m+8*Al.sizes l+30≤500000000)(hM:L≤M∧M≤500000000) :
  ev (q124bb1a (iv 0) (iv x.kind) (sv x.name) (iv x.n) (iv x.t.kind) (sv x.t.name) (iv x.t.n) (tys x.t.kids) (exs x.kids) (als x.alts) (bds x.binds) (iv x.at_) (sv (pt S s.1)) (iv (L:Int)) (iv ((max M (L+s.2):Nat):Int)))=some (0,[iv x.kind,sv x.name,iv x.n,iv x.t.kind,sv x.t.name,iv x.t.n,tys x.t.kids,exs x.kids,als x.alts,bds x.binds,iv x.at_]++rs bt S L M (casT (l.map (Al.rc true)) 0 s)):=by
 have hlen:=fun(k:AV→Res)=>lenK_als (d:=Res.fail) (k:=k) l
 rw[hx0]
 exact loop_ev l (fun i s a=>if i=0 then jn s (a.rc true) else jn (jn s (tkB wBar)) (a.rc true)) (fun l i s=>casT (l.map (Al.rc true)) i s) (fun i s=>by rw[List.map_nil,casT]) (fun x l i s=>by rw[List.map_cons,casT]) (fun i s=>∃m,Ok m s∧m+8*Al.sizes (l.drop i)≤9000000∧S.size+64*m+600*Al.sizes (l.drop i)+1000≤1000000000∧L+m+8*Al.sizes (l.drop i)+30≤500000000) (fun i s=>q124bb1a (iv (i:Int)) (iv x.kind) (sv x.name) (iv x.n) (iv x.t.kind) (sv x.t.name) (iv x.t.n) (tys x.t.kids) (exs x.kids) (als l) (bds x.binds) (iv x.at_) (sv (pt S s.1)) (iv (L:Int)) (iv ((max M (L+s.2):Nat):Int))) (fun s=>(0,[iv x.kind,sv x.name,iv x.n,iv x.t.kind,sv x.t.name,iv x.t.n,tys x.t.kids,exs x.kids,als l,bds x.binds,iv x.at_]++rs bt S L M s)) hl (fun i j a s e0 hj hx hmm hi hd hI=>by
  obtain⟨m,hm,hB,hS,hL⟩:=hI
  rw[hd,Al.sizes] at hB hS hL
  obtain⟨hp,he,hsr,hz⟩:=ia a hmm
  have h5:=a.size_eq
  have h6:=a.e.size_pos
  have h7:=a.p.size_eq
  have hok:=al_ok true hp he
  have hbar:Ok 1 (tkB wBar):=Ok.tkB (by decide) (by decide)
  have hpo:=part_ok true he
  have hao:=pat_ok hp
  have hps:a.p.txt.size≤64*a.p.size:=hao.2.1
  have hpl:a.p.lev≤a.p.size:=hao.2.2
  have hmz:s.1.size≤64*m∧s.2≤m:=⟨hm.2.1,hm.2.2⟩
  have z1:=pt_size S s.1
  have p2:=rshowpat_x a.p (by omega) hp
  have p3:=r_levP 2000000 a.p (by omega) (Nat.le_refl _)
  unfold RLevP at p3
  have c1:=fun(k:AV→Res)=>cat_k (t:=9) (k:=k) a.p.txt ⟨#[32,45,62]⟩ (by omega) (by decide)
  have ps:(a.p.txt++(sSp++sArr)).size=a.p.txt.size+3:=by simp only[ByteArray.size_append];have e1:sSp.size=1:=rfl;have e2:sArr.size=2:=rfl;omega
  rw[arr_eq] at c1
  rw[a.rc_eq] at hok ⊢
  by_cases h0:i=0
  ·have hr:=hm.jn hok
   have hi0:¬(0:Int)<(i:Int):=by omega
   have hi1:¬0<i:=by omega
   have u1:=put_b (a.p.txt++(sSp++sArr)) (pt S s.1) L (max M (L+s.2):Nat) (by omega) (by omega)
   have z2:=pt_size (pt S s.1) (a.p.txt++(sSp++sArr))
   have d1:=deep_b a.p.lev (pt (pt S s.1) (a.p.txt++(sSp++sArr))) L (max M (L+s.2)) (by omega)
   have p1:=hsr.part (pt (pt S s.1) (a.p.txt++(sSp++sArr))) L (max (max M (L+s.2)) (L+a.p.lev)) ⟨by omega,by omega,by omega,by omega⟩
   unfold rs at p1
   have e1:pt (pt (pt S s.1) (a.p.txt++(sSp++sArr))) (part (pr true a.e)).1=pt S (jn s (jn (a.p.txt,a.p.lev) (jn (tkB sArr) (part (pr true a.e))))).1:=by
    rw[pt_pt (by omega),pt_pt hm.1,ByteArray.append_assoc,ByteArray.append_assoc]
    rfl
   have e2:max (max (max M (L+s.2)) (L+a.p.lev)) (L+(part (pr true a.e)).2)=max M (L+(jn s (jn (a.p.txt,a.p.lev) (jn (tkB sArr) (part (pr true a.e))))).2):=by
    show _=max M (L+max s.2 (max a.p.lev (max 0 (part (pr true a.e)).2)))
    omega
   rw[e1,e2] at p1
   rw[if_pos h0]
   refine⟨⟨_,hr,by omega,by omega,by omega⟩,?_⟩
   rw[h124bb1a,g124bb1a]
   generalize max M (L+s.2)=M1 at u1 d1 p1 e2 ⊢
   generalize max M1 (L+a.p.lev)=M2 at d1 p1 e2 ⊢
   simp[hlen,hi,hi0,hi1,idxK_als hx,p1,p2,p3,c1,u1,d1,e0]
  ·have hr:=(hm.jn hbar).jn hok
   have hi0:(0:Int)<(i:Int):=by omega
   have hi1:0<i:=by omega
   have u0:=put_b wBar (pt S s.1) L (max M (L+s.2):Nat) (by omega) (by decide)
   have z0:=pt_size (pt S s.1) wBar
   have wb:wBar.size=1:=rfl
   have u1:=put_b (a.p.txt++(sSp++sArr)) (pt (pt S s.1) wBar) L (max M (L+s.2):Nat) (by omega) (by omega)
   have z2:=pt_size (pt (pt S s.1) wBar) (a.p.txt++(sSp++sArr))
   have d1:=deep_b a.p.lev (pt (pt (pt S s.1) wBar) (a.p.txt++(sSp++sArr))) L (max M (L+s.2)) (by omega)
   have p1:=hsr.part (pt (pt (pt S s.1) wBar) (a.p.txt++(sSp++sArr))) L (max (max M (L+s.2)) (L+a.p.lev)) ⟨by omega,by omega,by omega,by omega⟩
   unfold rs at p1
   have e1:pt (pt (pt (pt S s.1) wBar) (a.p.txt++(sSp++sArr))) (part (pr true a.e)).1=pt S (jn (jn s (tkB wBar)) (jn (a.p.txt,a.p.lev) (jn (tkB sArr) (part (pr true a.e))))).1:=by
    rw[pt_pt (by omega),pt_pt (x:=wBar) (by decide),pt_pt hm.1,ByteArray.append_assoc,ByteArray.append_assoc]
    show _=pt S ((s.1++(sSp++wBar))++(sSp++(a.p.txt++(sSp++(sArr++(sSp++(part (pr true a.e)).1))))))
    rw[ByteArray.append_assoc,ByteArray.append_assoc]
   have e2:max (max (max M (L+s.2)) (L+a.p.lev)) (L+(part (pr true a.e)).2)=max M (L+(jn (jn s (tkB wBar)) (jn (a.p.txt,a.p.lev) (jn (tkB sArr) (part (pr true a.e))))).2):=by
    show _=max M (L+max (max s.2 0) (max a.p.lev (max 0 (part (pr true a.e)).2)))
    omega
   rw[e1,e2] at p1
   rw[if_neg h0]
   refine⟨⟨_,hr,by omega,by omega,by omega⟩,?_⟩
   rw[h124bb1a,g124bb1a]
   generalize max M (L+s.2)=M1 at u0 u1 d1 p1 e2 ⊢
   generalize max M1 (L+a.p.lev)=M2 at d1 p1 e2 ⊢
   simp[hlen,hi,hi0,hi1,idxK_als hx,p1,p2,p3,c1,u0,u1,d1,e0]) (fun s hI=>by
  rw[h124bb1a,g124bb1a]
  unfold rs
  simp[hlen]) s ⟨m,hm,by rw[List.drop_zero];exact⟨hB,hS,hL⟩⟩
theorem rletb(x:Ex)(l:List Bd)(hx0:x.binds=l)(hl0:0<l.length)(hl:l.length≤2000000)(ib:∀y∈l,nameB y.name=true∧y.e.good=true∧SRb y.e∧y.size≤1100000)(w:ByteArray)(hw:w.size≤7)(hw0:0<w.size)(t:Tx)(hB:8*Bd.sizes l≤9000000)(S:ByteArray)(L M:Nat)(hS:S.size+600*Bd.sizes l+1000≤1000000000)(hL:L+8*Bd.sizes l+30≤500000000)(hM:L≤M∧M≤500000000) :
  ev (q79bb1a (iv 0) (iv x.kind) (sv x.name) (iv x.n) (iv x.t.kind) (sv x.t.name) (iv x.t.n) (tys x.t.kids) (exs x.kids) (als x.alts) (bds x.binds) (iv x.at_) (sv (pt S w)) (iv (L:Int)) (iv (M:Int)))=some (0,[iv x.kind,sv x.name,iv x.n,iv x.t.kind,sv x.t.name,iv x.t.n,tys x.t.kids,exs x.kids,als x.alts,bds x.binds,iv x.at_]++rs bt S L M (letT (l.map (Bd.rc true)) 0 (w,t)).2):=by
 have hlen:=fun(k:AV→Res)=>lenK_bds (d:=Res.fail) (k:=k) l
 rw[hx0]
 exact loop_ev l (fun i (s:ByteArray×Tx) b=>if i=0 then(s.1,jn (tkB (defT s.1 (b.rc true).1)) (b.rc true).2) else(wAnd,jn s.2 (jn (tkB (defT wAnd (b.rc true).1)) (b.rc true).2))) (fun l i s=>letT (l.map (Bd.rc true)) i s) (fun i s=>by rw[List.map_nil,letT]) (fun x l i s=>by rw[List.map_cons,letT]) (fun i s=>(i=0→s.1=w)∧(i=0∨∃m,Ok m s.2∧m+8*Bd.sizes (l.drop i)≤9000000∧S.size+64*m+600*Bd.sizes (l.drop i)+1000≤1000000000∧L+m+8*Bd.sizes (l.drop i)+30≤500000000)) (fun i s=>q79bb1a (iv (i:Int)) (iv x.kind) (sv x.name) (iv x.n) (iv x.t.kind) (sv x.t.name) (iv x.t.n) (tys x.t.kids) (exs x.kids) (als x.alts) (bds l) (iv x.at_) (sv (if i=0 then pt S s.1 else pt S s.2.1)) (iv (L:Int)) (iv ((if i=0 then M else max M (L+s.2.2):Nat):Int))) (fun s=>(0,[iv x.kind,sv x.name,iv x.n,iv x.t.kind,sv x.t.name,iv x.t.n,tys x.t.kids,exs x.kids,als x.alts,bds l,iv x.at_]++rs bt S L M s.2)) hl (fun i j b s e0 hj hx hmm hi hd hI=>by
  obtain⟨hw1,hI⟩:=hI
  obtain⟨hn,he,hsr,hz⟩:=ib b hmm
  have h5:=b.size_eq
  have h6:=b.e.size_pos
  have hj0:¬j=0:=by omega
  rw[if_neg hj0,if_neg hj0]
  have hpo:=part_ok true he
  have p2:=rname2_x b.name (by omega)
  have hbok:=fun(w:ByteArray) (hw:w.size≤7)=>bd_ok true (b:=b) hw hpo
  rw[b.rc_eq] at hbok ⊢
  have hnz:=nmB_size b.name
  have c1:=fun(k:AV→Res)=>cat_k (t:=9) (k:=k) (nmB b.name) ⟨#[32,61]⟩ (by omega) (by decide)
  rw[eq_eq] at c1
  have ns:(nmB b.name++(sSp++wEq)).size=(nmB b.name).size+2:=by simp only[ByteArray.size_append];have e1:sSp.size=1:=rfl;have e2:wEq.size=1:=rfl;omega
  by_cases h0:i=0
  ·rw[if_pos h0,if_pos h0,if_pos h0]
   have hw2:=hw1 h0
   have hd2:Bd.sizes l=b.size+Bd.sizes (l.drop j):=by rw[h0] at hd;rw[List.drop_zero] at hd;conv=>lhs;rw[hd,Bd.sizes]
   have hi0:¬(0:Int)<(i:Int):=by omega
   have hi1:¬0<i:=by omega
   have z1:=pt_size S s.1
   have hsw:s.1.size=w.size:=by rw[hw2]
   have u1:=put_b (nmB b.name++(sSp++wEq)) (pt S s.1) L M (by omega) (by omega)
   have z2:=pt_size (pt S s.1) (nmB b.name++(sSp++wEq))
   have p1:=hsr.part (pt (pt S s.1) (nmB b.name++(sSp++wEq))) L M ⟨by omega,by omega,by omega,by omega⟩
   unfold rs at p1
   have e1:pt (pt (pt S s.1) (nmB b.name++(sSp++wEq))) (part (pr true b.e)).1=pt S (jn (tkB (defT s.1 (nmB b.name))) (part (pr true b.e))).1:=by
    rw[pt_pt (by omega),pt_pt (by omega)]
    show _=pt S (defT s.1 (nmB b.name)++(sSp++(part (pr true b.e)).1))
    unfold defT
    simp only[ByteArray.append_assoc]
   have e2:max M (L+(part (pr true b.e)).2)=max M (L+(jn (tkB (defT s.1 (nmB b.name))) (part (pr true b.e))).2):=by
    show _=max M (L+max 0 (part (pr true b.e)).2)
    omega
   rw[e1,e2] at p1
   have a3:=hbok s.1 (by omega)
   refine⟨⟨fun h=>absurd h hj0,.inr ⟨_,a3,by omega,by omega,by omega⟩⟩,?_⟩
   rw[h79bb1a,g79bb1a]
   simp[hlen,hi,hi0,hi1,idxK_bds hx,p1,p2,c1,u1,e0]
  ·rw[if_neg h0,if_neg h0,if_neg h0]
   obtain⟨m,hm,hB,hS,hL⟩:=hI.resolve_left h0
   rw[hd,Bd.sizes] at hB hS hL
   have hmz:s.2.1.size≤64*m∧s.2.2≤m:=⟨hm.2.1,hm.2.2⟩
   have hi0:(0:Int)<(i:Int):=by omega
   have hi1:0<i:=by omega
   have z1:=pt_size S s.2.1
   have wa:wAnd.size=3:=rfl
   have u0:=put_b wAnd (pt S s.2.1) L (max M (L+s.2.2):Nat) (by omega) (by decide)
   have z0:=pt_size (pt S s.2.1) wAnd
   have u1:=put_b (nmB b.name++(sSp++wEq)) (pt (pt S s.2.1) wAnd) L (max M (L+s.2.2):Nat) (by omega) (by omega)
   have z2:=pt_size (pt (pt S s.2.1) wAnd) (nmB b.name++(sSp++wEq))
   have p1:=hsr.part (pt (pt (pt S s.2.1) wAnd) (nmB b.name++(sSp++wEq))) L (max M (L+s.2.2)) ⟨by omega,by omega,by omega,by omega⟩
   unfold rs at p1
   have e1:pt (pt (pt (pt S s.2.1) wAnd) (nmB b.name++(sSp++wEq))) (part (pr true b.e)).1=pt S (jn s.2 (jn (tkB (defT wAnd (nmB b.name))) (part (pr true b.e)))).1:=by
    rw[pt_pt (by omega),pt_pt (x:=wAnd) (by decide),pt_pt hm.1]
    show _=pt S (s.2.1++(sSp++(defT wAnd (nmB b.name)++(sSp++(part (pr true b.e)).1))))
    unfold defT
    simp only[ByteArray.append_assoc]
   have e2:max (max M (L+s.2.2)) (L+(part (pr true b.e)).2)=max M (L+(jn s.2 (jn (tkB (defT wAnd (nmB b.name))) (part (pr true b.e)))).2):=by
    show _=max M (L+max s.2.2 (max 0 (part (pr true b.e)).2))
    omega
   rw[e1,e2] at p1
   have a3:=hbok wAnd (by decide)
   have a4:=hm.jn a3
   refine⟨⟨fun h=>absurd h hj0,.inr ⟨_,a4,by omega,by omega,by omega⟩⟩,?_⟩
   rw[h79bb1a,g79bb1a]
   generalize max M (L+s.2.2)=M1 at u0 u1 p1 e2 ⊢
   simp[hlen,hi,hi0,hi1,idxK_bds hx,p1,p2,c1,u0,u1,e0]) (fun s hI=>by
  have hln:¬l.length=0:=by omega
  rw[if_neg hln,if_neg hln,h79bb1a,g79bb1a]
  unfold rs
  simp[hlen]) (w,t) ⟨fun _=>rfl,.inl rfl⟩
theorem ratomb(x:Ex)(hg:x.good=true)(hz:x.size≤1100000)(ik:∀y∈x.kids,SRb y)(ia:∀y∈x.alts,SRb y.e)(hia:isAtom x=true)(S:ByteArray)(L M:Nat)(hS:okB S L M x.size):ev (q124b (iv x.kind) (sv x.name) (iv x.n) (iv x.t.kind) (sv x.t.name) (iv x.t.n) (tys x.t.kids) (exs x.kids) (als x.alts) (bds x.binds) (iv x.at_) (sv S) (iv (L:Int)) (iv (M:Int)))=some (0,rs bt S L M (pr true x).2.at_):=by
 obtain⟨s1,s2,s3,s4⟩:=hS
 obtain⟨hl1,hl2,hl3,hs,hts⟩:=x.len_ok (by omega)
 have hsz:=x.size_eq
 have htp:=x.t.size_pos
 rw[pr_at]
 unfold atT
 by_cases k1:x.kind=1
 ·rw[if_pos k1,rs_tk _ trivial s3]
  obtain⟨n0,n1⟩:=Ex.num_ok hg k1
  have t:=rtxt_x x.n n0 n1
  have u:=put_b (digs x.n.toNat) S L M (by omega) (by have:=digs_size x.n.toNat;omega)
  refine Evl.of ?_
  rw[h124b,g124b]
  simp[k1,t,u]
 rw[if_neg k1]
 by_cases k2:x.kind=2
 ·rw[if_pos k2,rs_tk _ trivial s3]
  have t:=rquo_x x.name (by omega)
  have u:=put_b (quoB x.name) S L M (by omega) (by have:=quoB_size x.name;omega)
  refine Evl.of ?_
  rw[h124b,g124b]
  simp[k1,k2,t,u]
 rw[if_neg k2]
 by_cases k8:x.kind=8
 ·obtain⟨a,hk⟩:=Ex.good_one hg (.inr (.inr (.inl k8)))
  have hga:=Ex.good_kid hg (y:=a) (by rw[hk];simp)
  have ra:=ik a (by rw[hk];simp)
  have hpo:=part_ok true hga
  rw[hk,sizes1] at hsz
  rw[if_pos k8,hk,kd0]
  have o1:Ok 1 (tkB wCase):=Ok.tkB (by decide) (by decide)
  have o2:Ok 1 (tkB wOf):=Ok.tkB (by decide) (by decide)
  have hSo:=o1.jn (hpo.jn o2)
  obtain⟨q1,q2,q3⟩:=hpo
  have c1:wCase.size=4:=rfl
  have c2:wOf.size=2:=rfl
  have u1:=put_b wCase S L M (by omega) (by decide)
  have z1:=pt_size S wCase
  have p1:=ra.part (pt S wCase) L M ⟨by omega,by omega,s3,s4⟩
  unfold rs at p1
  have z2:=pt_size (pt S wCase) (part (pr true a)).1
  have u2:=put_b wOf (pt (pt S wCase) (part (pr true a)).1) L (max M (L+(part (pr true a)).2):Nat) (by omega) (by decide)
  have e1:pt (pt (pt S wCase) (part (pr true a)).1) wOf=pt S (jn (tkB wCase) (jn (part (pr true a)) (tkB wOf))).1:=by
   rw[pt_pt q1,pt_pt (x:=wCase) (by decide)];rfl
  have e2:max M (L+(part (pr true a)).2)=max M (L+(jn (tkB wCase) (jn (part (pr true a)) (tkB wOf))).2):=by
   show _=max M (L+max 0 (max (part (pr true a)).2 0));omega
  have lp:=rcasb x x.alts rfl hl2 (fun y hy=>⟨(Ex.good_alt hg hy).1,(Ex.good_alt hg hy).2,ia y hy,by have:=Al.mem_le hy;omega⟩) (jn (tkB wCase) (jn (part (pr true a)) (tkB wOf))) _ hSo (by omega) S L M (by omega) (by omega) ⟨s3,s4⟩
  have hC:=casT_ok true x.alts 0 _ _ hSo (fun y hy=>al_ok true (Ex.good_alt hg hy).1 (Ex.good_alt hg hy).2)
  rw[←e1,←e2] at lp
  generalize casT (x.alts.map (Al.rc true)) 0 (jn (tkB wCase) (jn (part (pr true a)) (tkB wOf)))=C at *
  obtain⟨r1,r2,r3⟩:=hC
  unfold rs at lp
  have z3:=pt_size S C.1
  have u3:=put_b wEnd (pt S C.1) L (max M (L+C.2):Nat) (by omega) (by decide)
  have e3:rs bt S L M (jn C (tkB wEnd))=[sv (pt (pt S C.1) wEnd),iv (L:Int),iv ((max M (L+C.2):Nat):Int),bt]:=by
   unfold rs
   rw[pt_pt r1]
   have:(jn C (tkB wEnd)).2=C.2:=by show max C.2 0=C.2;omega
   rw[this];rfl
  rw[e3]
  rw[k8,hk] at lp
  generalize max M (L+(part (pr true a)).2)=M1 at *
  generalize max M (L+C.2)=M2 at *
  refine Evl.of ?_
  rw[h124b,g124b]
  simp[k8,hk,ixE0,u1,p1,u2,lp,u3]
 rw[if_neg k8]
 by_cases k12:x.kind=12
 ·obtain⟨a,hk⟩:=Ex.good_one hg (.inr (.inr (.inr k12)))
  have hga:=Ex.good_kid hg (y:=a) (by rw[hk];simp)
  have hgt:=Ex.good_t hg k12
  have ra:=ik a (by rw[hk];simp)
  have hpo:=part_ok true hga
  rw[hk,sizes1] at hsz
  rw[if_pos k12,hk,kd0]
  obtain⟨q1,q2,q3⟩:=hpo
  obtain⟨w1,w2,w3⟩:=typ_ok hgt
  simp only at w1 w2 w3
  have c1:sL1.size=1:=rfl
  have u1:=put_b sL1 S L M (by omega) (by decide)
  have z1:=pt_size S sL1
  have p1:=ra.part (pt S sL1) L M ⟨by omega,by omega,s3,s4⟩
  unfold rs at p1
  have z2:=pt_size (pt S sL1) (part (pr true a)).1
  have t4:=rshowtype_x x.t (by omega) hgt
  have t5:=r_levT 2000000 x.t (by omega) (Nat.le_refl _)
  unfold RLevT at t5
  have k1:=fun(k:AV→Res)=>cat_k (t:=9) (k:=k) ⟨#[58,32]⟩ x.t.txt (by decide) (by omega)
  have k2:=fun(k:AV→Res)=>cat_k (t:=9) (k:=k) (⟨#[58,32]⟩++x.t.txt) ⟨#[32,41]⟩ (by rw[ByteArray.size_append];have:(⟨#[58,32]⟩:ByteArray).size=2:=rfl;omega) (by decide)
  rw[col_eq] at k2
  have cs:(wCol++(sSp++(x.t.txt++(sSp++sR1)))).size=x.t.txt.size+4:=by simp only[ByteArray.size_append];have e1:sSp.size=1:=rfl;have e2:wCol.size=1:=rfl;have e3:sR1.size=1:=rfl;omega
  have u2:=put_b (wCol++(sSp++(x.t.txt++(sSp++sR1)))) (pt (pt S sL1) (part (pr true a)).1) L (max M (L+(part (pr true a)).2):Nat) (by omega) (by omega)
  have d1:=deep_b x.t.lev (pt (pt (pt S sL1) (part (pr true a)).1) (wCol++(sSp++(x.t.txt++(sSp++sR1))))) L (max M (L+(part (pr true a)).2)) (by omega)
  have e3:rs bt S L M (jn (tkB sL1) (jn (part (pr true a)) (jn (tkB wCol) (jn (x.t.txt,x.t.lev) (tkB sR1)))))=[sv (pt (pt (pt S sL1) (part (pr true a)).1) (wCol++(sSp++(x.t.txt++(sSp++sR1))))),iv (L:Int),iv ((max (max M (L+(part (pr true a)).2)) (L+x.t.lev):Nat):Int),bt]:=by
   unfold rs
   rw[pt_pt q1,pt_pt (x:=sL1) (by decide)]
   have:max M (L+(jn (tkB sL1) (jn (part (pr true a)) (jn (tkB wCol) (jn (x.t.txt,x.t.lev) (tkB sR1))))).2)=max (max M (L+(part (pr true a)).2)) (L+x.t.lev):=by
    show max M (L+max 0 (max (part (pr true a)).2 (max 0 (max x.t.lev 0))))=_;omega
   rw[this];rfl
  rw[e3]
  generalize max M (L+(part (pr true a)).2)=M1 at *
  generalize max M1 (L+x.t.lev)=M2 at *
  refine Evl.of ?_
  rw[h124b,g124b]
  simp[k12,hk,ixE0,u1,p1,t4,k1,k2,u2,t5,d1]
 rw[if_neg k12]
 have k34:x.kind=3∨x.kind=4:=by
  have:=Ex.good_kind hg
  unfold isAtom isOpen at hia
  apply Decidable.byContradiction
  intro hn
  have:x.kind=5∨x.kind=6∨x.kind=7∨x.kind=9∨x.kind=10∨x.kind=11:=by omega
  rcases this with h|h|h|h|h|h<;>(rw[h] at hia;simp at hia)
 rw[if_pos k34,rs_tk _ trivial s3]
 have t:=rname2_x x.name (by omega)
 have u:=put_b (nmB x.name) S L M (by omega) (by have:=nmB_size x.name;omega)
 refine Evl.of ?_
 rw[h124b,g124b]
 simp[k1,k2,k8,k12,t,u]
theorem rappb(x:Ex)(hg:x.good=true)(hz:x.size≤1100000)(ik:∀y∈x.kids,SRb y)(k5:x.kind=5)(S:ByteArray)(L M:Nat)(hS:okB S L M x.size):ev (q123b (iv x.kind) (sv x.name) (iv x.n) (iv x.t.kind) (sv x.t.name) (iv x.t.n) (tys x.t.kids) (exs x.kids) (als x.alts) (bds x.binds) (iv x.at_) (sv S) (iv (L:Int)) (iv (M:Int)))=some (0,rs bt S L M (pr true x).2.ap):=by
 obtain⟨s1,s2,s3,s4⟩:=hS
 have hsz:=x.size_eq
 have htp:=x.t.size_pos
 rw[pr_ap,if_pos k5]
 unfold apT
 obtain⟨a,b,hk⟩:=Ex.good_two hg (.inl k5)
 have sa:=ik a (by rw[hk];simp)
 have sb:=ik b (by rw[hk];simp)
 have hga:=Ex.good_kid hg (y:=a) (by rw[hk];simp)
 have oa:=ok_arg (ok_pr true a.size a (Nat.le_refl _) hga)
 have op:=(ok_pr true a.size a (Nat.le_refl _) hga).2.2.2.1
 have e2:(pr true a).1.size=a.size:=rfl
 rw[e2] at oa op
 rw[hk,sizes2] at hsz
 rw[hk,kd0,kd1]
 by_cases d5:(pr true a).1.kind=5
 ·have d6:a.kind=5:=d5
  obtain⟨q1,q2,q3⟩:=op
  have pa:=sa.app d6 S L M ⟨by omega,by omega,s3,s4⟩
  have z1:=pt_size S (pr true a).2.ap.1
  have pb:=sb.arg (pt S (pr true a).2.ap.1) L (max M (L+(pr true a).2.ap.2)) ⟨by omega,by omega,by omega,by omega⟩
  rw[if_pos d5,rs_jn _ _ _ _ _ _ q1]
  unfold rs at pa pb ⊢
  generalize max M (L+(pr true a).2.ap.2)=M1 at *
  generalize max M1 (L+(arg (pr true b)).2)=M2 at *
  rw[d6] at pa
  refine Evl.of ?_
  rw[h123b,g123b]
  simp[hk,ixE0,ixE1,d6,pa,pb]
 ·have d6:¬a.kind=5:=d5
  obtain⟨q1,q2,q3⟩:=oa
  have pa:=sa.arg S L M ⟨by omega,by omega,s3,s4⟩
  have z1:=pt_size S (arg (pr true a)).1
  have pb:=sb.arg (pt S (arg (pr true a)).1) L (max M (L+(arg (pr true a)).2)) ⟨by omega,by omega,by omega,by omega⟩
  rw[if_neg d5,rs_jn _ _ _ _ _ _ q1]
  unfold rs at pa pb ⊢
  generalize max M (L+(arg (pr true a)).2)=M1 at *
  generalize max M1 (L+(arg (pr true b)).2)=M2 at *
  refine Evl.of ?_
  rw[h123b,g123b]
  simp[hk,ixE0,ixE1,d6,pa,pb]
theorem rwTb(x:Ex)(hg:x.good=true)(hz:x.size≤1100000)(is:∀y:Ex,y.size<x.size→y.good=true→SRb y)(S:ByteArray)(L M:Nat)(hS:okB S L M x.size):ev (q79b (iv x.kind) (sv x.name) (iv x.n) (iv x.t.kind) (sv x.t.name) (iv x.t.n) (tys x.t.kids) (exs x.kids) (als x.alts) (bds x.binds) (iv x.at_) (sv S) (iv (L:Int)) (iv (M:Int)))=some (0,rs bt S L M (whole (pr true x) true)):=by
 have hri:=rinf_x x hg (by omega)
 obtain⟨s1,s2,s3,s4⟩:=id hS
 obtain⟨hl1,hl2,hl3,hs,hts⟩:=x.len_ok (by omega)
 have hsz:=x.size_eq
 have htp:=x.t.size_pos
 have ik:∀y∈x.kids,SRb y:=fun y hy=>is y (Ex.kid_size hy) (Ex.good_kid hg hy)
 unfold whole
 by_cases k6:x.kind=6
 ·have ho:isOpen (pr true x).1=true:=by show isOpen x=true;unfold isOpen;rw[if_pos k6]
  rw[ho,if_pos rfl,pr_op]
  unfold opT
  obtain⟨a,hk⟩:=Ex.good_one hg (.inl k6)
  have ra:=ik a (by rw[hk];simp)
  rw[hk,sizes1] at hsz
  rw[if_pos k6,hk,kd0]
  have k1:=fun(k:AV→Res)=>cat_k (t:=9) (k:=k) ⟨#[92,32]⟩ x.name (by decide) (by omega)
  have k2:=fun(k:AV→Res)=>cat_k (t:=9) (k:=k) (⟨#[92,32]⟩++x.name) ⟨#[32,45,62]⟩ (by rw[ByteArray.size_append];have:(⟨#[92,32]⟩:ByteArray).size=2:=rfl;omega) (by decide)
  rw[lam_eq] at k2
  have cs:(lamT x.name).size=x.name.size+5:=by unfold lamT;simp only[ByteArray.size_append];have e1:sSp.size=1:=rfl;have e2:wLam.size=1:=rfl;have e3:sArr.size=2:=rfl;omega
  have u1:=put_b (lamT x.name) S L M (by omega) (by omega)
  have z1:=pt_size S (lamT x.name)
  have p1:=ra.part (pt S (lamT x.name)) L M ⟨by omega,by omega,s3,s4⟩
  rw[jn_tk _ _ _ _ _ _ (by omega)] at p1
  unfold rs at p1 ⊢
  rw[k6,hk] at hri
  generalize max M (L+(jn (tkB (lamT x.name)) (part (pr true a))).2)=M1 at *
  refine Evl.of ?_
  rw[h79b,g79b]
  simp[hri,k6,hk,ixE0,k1,k2,u1,p1]
 by_cases k7:x.kind=7
 ·have ho:isOpen (pr true x).1=true:=by show isOpen x=true;unfold isOpen;rw[if_neg k6,if_pos k7]
  rw[ho,if_pos rfl,pr_op]
  unfold opT
  obtain⟨a,hk⟩:=Ex.good_one hg (.inr (.inl k7))
  have ra:=ik a (by rw[hk];simp)
  rw[hk,sizes1] at hsz
  rw[if_neg k6,if_neg (by omega),if_pos k7,hk,kd0]
  have hbl:=(Ex.good_bl hg).2 k7
  have hlet:=fun(w:ByteArray) (hw:w.size≤7) (hw0:0<w.size)=>rletb x x.binds rfl hbl hl3 (fun y hy=>⟨(Ex.good_bind hg hy).1,(Ex.good_bind hg hy).2,is y.e (Ex.bind_size hy).1 (Ex.good_bind hg hy).2,by have:=Bd.mem_le hy;omega⟩) w hw hw0 (tkB eB) (by omega) S L M (by omega) (by omega) ⟨s3,s4⟩
  have hlo:=fun(w:ByteArray) (hw:w.size≤7)=>letT_ok0 true x.binds w (tkB eB) hw hbl (fun y hy=>part_ok true (Ex.good_bind hg hy).2)
  have c1:wLet.size=3:=rfl
  have c2:wIn.size=2:=rfl
  have u1:=put_b wLet S L M (by omega) (by decide)
  have z1:=pt_size S wLet
  rw[k7,hk] at hri
  by_cases kn:x.n=1
  ·rw[if_pos kn]
   have u2:=put_b ⟨#[114,101,99]⟩ (pt S wLet) L M (by omega) (by decide)
   rw[pt_pt (x:=wLet) (by decide),←rec_eq] at u2
   have lp:=hlet wRec (by decide) (by decide)
   obtain⟨q1,q2,q3⟩:=hlo wRec (by decide)
   generalize (letT (x.binds.map (Bd.rc true)) 0 (wRec,tkB eB)).2=C at *
   have z3:=pt_size S C.1
   have u3:=put_b wIn (pt S C.1) L (max M (L+C.2):Nat) (by omega) (by decide)
   have z4:=pt_size (pt S C.1) wIn
   have p1:=ra.part (pt (pt S C.1) wIn) L (max M (L+C.2)) ⟨by omega,by omega,by omega,by omega⟩
   rw[jn_tk _ _ _ _ _ _ (by decide),←rs_jn _ _ _ _ _ _ q1] at p1
   unfold rs at lp p1 ⊢
   rw[hk,kn,k7] at lp
   rw[kn] at hri
   generalize max M (L+C.2)=M1 at *
   generalize max M (L+(jn C (jn (tkB wIn) (part (pr true a)))).2)=M2 at *
   refine Evl.of ?_
   rw[h79b,g79b]
   simp[hri,k7,kn,hk,ixE0,u1,u2,lp,u3,p1]
  ·rw[if_neg kn]
   have lp:=hlet wLet (by decide) (by decide)
   obtain⟨q1,q2,q3⟩:=hlo wLet (by decide)
   generalize (letT (x.binds.map (Bd.rc true)) 0 (wLet,tkB eB)).2=C at *
   have z3:=pt_size S C.1
   have u3:=put_b wIn (pt S C.1) L (max M (L+C.2):Nat) (by omega) (by decide)
   have z4:=pt_size (pt S C.1) wIn
   have p1:=ra.part (pt (pt S C.1) wIn) L (max M (L+C.2)) ⟨by omega,by omega,by omega,by omega⟩
   rw[jn_tk _ _ _ _ _ _ (by decide),←rs_jn _ _ _ _ _ _ q1] at p1
   unfold rs at lp p1 ⊢
   rw[hk,k7] at lp
   generalize max M (L+C.2)=M1 at *
   generalize max M (L+(jn C (jn (tkB wIn) (part (pr true a)))).2)=M2 at *
   refine Evl.of ?_
   rw[h79b,g79b]
   simp[hri,k7,kn,hk,ixE0,u1,lp,u3,p1]
 by_cases k9:x.kind=9
 ·have ho:isOpen (pr true x).1=true:=by show isOpen x=true;unfold isOpen;rw[if_neg k6,if_neg k7];exact decide_eq_true k9
  rw[ho,if_pos rfl,pr_op]
  unfold opT
  obtain⟨a,b,c,hk⟩:=Ex.good_three hg k9
  have ra:=ik a (by rw[hk];simp)
  have rb:=ik b (by rw[hk];simp)
  have rc:=ik c (by rw[hk];simp)
  have hga:=Ex.good_kid hg (y:=a) (by rw[hk];simp)
  have hgb:=Ex.good_kid hg (y:=b) (by rw[hk];simp)
  obtain⟨a1,a2,a3⟩:=part_ok true hga
  obtain⟨b1,b2,b3⟩:=part_ok true hgb
  rw[hk,sizes3] at hsz
  rw[if_neg k6,if_pos k9,hk,kd0,kd1,kd2]
  have c1:wIf.size=2:=rfl
  have c2:wThen.size=4:=rfl
  have c3:wElse.size=4:=rfl
  have u1:=put_b wIf S L M (by omega) (by decide)
  have z1:=pt_size S wIf
  have p1:=ra.part (pt S wIf) L M ⟨by omega,by omega,s3,s4⟩
  have z2:=pt_size (pt S wIf) (part (pr true a)).1
  have u2:=put_b wThen (pt (pt S wIf) (part (pr true a)).1) L (max M (L+(part (pr true a)).2):Nat) (by omega) (by decide)
  have z3:=pt_size (pt (pt S wIf) (part (pr true a)).1) wThen
  have p2:=rb.part (pt (pt (pt S wIf) (part (pr true a)).1) wThen) L (max M (L+(part (pr true a)).2)) ⟨by omega,by omega,by omega,by omega⟩
  have z4:=pt_size (pt (pt (pt S wIf) (part (pr true a)).1) wThen) (part (pr true b)).1
  have u3:=put_b wElse (pt (pt (pt (pt S wIf) (part (pr true a)).1) wThen) (part (pr true b)).1) L (max (max M (L+(part (pr true a)).2)) (L+(part (pr true b)).2):Nat) (by omega) (by decide)
  have z5:=pt_size (pt (pt (pt (pt S wIf) (part (pr true a)).1) wThen) (part (pr true b)).1) wElse
  have p3:=rc.part (pt (pt (pt (pt (pt S wIf) (part (pr true a)).1) wThen) (part (pr true b)).1) wElse) L (max (max M (L+(part (pr true a)).2)) (L+(part (pr true b)).2)) ⟨by omega,by omega,by omega,by omega⟩
  have e3:rs bt S L M (jn (tkB wIf) (jn (part (pr true a)) (jn (tkB wThen) (jn (part (pr true b)) (jn (tkB wElse) (part (pr true c)))))))=rs bt (pt (pt (pt (pt (pt S wIf) (part (pr true a)).1) wThen) (part (pr true b)).1) wElse) L (max (max M (L+(part (pr true a)).2)) (L+(part (pr true b)).2)) (part (pr true c)):=by
   rw[←jn_tk _ _ _ _ _ _ (by decide),rs_jn _ _ _ _ _ _ a1,←jn_tk _ _ _ _ _ _ (by decide),rs_jn _ _ _ _ _ _ b1,←jn_tk _ _ _ _ _ _ (by decide)]
  rw[e3]
  unfold rs at p1 p2 p3 ⊢
  rw[k9,hk] at hri
  generalize max M (L+(part (pr true a)).2)=M1 at *
  generalize max M1 (L+(part (pr true b)).2)=M2 at *
  generalize max M2 (L+(part (pr true c)).2)=M3 at *
  refine Evl.of ?_
  rw[h79b,g79b]
  simp[hri,k9,hk,ixE0,ixE1,ixE2,u1,p1,u2,p2,u3,p3]
 have ho':isOpen x=false:=by unfold isOpen;rw[if_neg k6,if_neg k7];exact decide_eq_false k9
 have ho:isOpen (pr true x).1=false:=ho'
 rw[ho,if_neg (by decide),if_pos rfl,pr_bt]
 by_cases hn:opE x=eB
 ·unfold bT
  rw[if_pos hn]
  rw[hn] at hri
  by_cases k5:x.kind=5
  ·have ha:=rappb x hg hz ik k5 S L M hS
   rw[pr_ap,if_pos k5] at ha
   rw[if_pos k5]
   unfold rs at ha ⊢
   rw[k5] at hri ha
   generalize max M (L+(apT (x.kids.map (pr true))).2)=M1 at *
   refine Evl.of ?_
   rw[h79b,g79b]
   simp[hri,k5,ha]
  ·rw[if_neg k5]
   have hia:isAtom x=true:=by
    unfold isAtom
    rw[ho',if_neg (by decide),if_neg k5]
    unfold opE at hn
    by_cases c10:x.kind=10
    ·rw[if_pos c10] at hn;exact absurd hn (by decide)
    by_cases c11:x.kind=11
    ·rw[if_neg c10,if_pos c11] at hn;exact absurd hn (by decide)
    rw[if_neg c10]
    simpa using c11
   have ha:=ratomb x hg hz ik (fun y hy=>is y.e (Ex.alt_size hy).1 (Ex.good_alt hg hy).2) hia S L M hS
   rw[pr_at] at ha
   unfold rs at ha ⊢
   generalize max M (L+(atT x (x.kids.map (pr true)) (x.alts.map (Al.rc true))).2)=M1 at *
   refine Evl.of ?_
   rw[h79b,g79b]
   simp[hri,k5,k6,k7,k9,ha]
 ·obtain⟨a,b,hi⟩:=inf_of hg hn
  have hm:=hi.mem
  have hio:=hi.op
  obtain⟨ga,gb⟩:=hm.2 hg
  rw[hi.bT]
  have hp0:=pos_of_ne hn
  have sa:=(is a hm.1.1 ga).ff (opE x) S L M ⟨by omega,by omega,s3,s4⟩
  have oa:=ok_opd (ok_pr true a.size a (Nat.le_refl _) ga) true (opE x) false false
  have e2:(pr true a).1.size=a.size:=rfl
  rw[e2] at oa
  obtain⟨a1,a2,a3⟩:=oa
  have z1:=pt_size S (opd true (pr true a) (opE x) false false).1
  have u1:=put_b (opE x) (pt S (opd true (pr true a) (opE x) false false).1) L (max M (L+(opd true (pr true a) (opE x) false false).2):Nat) (by omega) (by omega)
  have z2:=pt_size (pt S (opd true (pr true a) (opE x) false false).1) (opE x)
  have sb:=(is b hm.1.2.1 gb).tt (opE x) (pt (pt S (opd true (pr true a) (opE x) false false).1) (opE x)) L (max M (L+(opd true (pr true a) (opE x) false false).2)) ⟨by omega,by omega,by omega,by omega⟩
  rw[rs_jn _ _ _ _ _ _ a1,←jn_tk _ _ _ _ _ _ hp0]
  unfold rs at sa sb ⊢
  generalize opd true (pr true a) (opE x) false false=A at *
  generalize opd true (pr true b) (opE x) true true=B at *
  generalize max M (L+A.2)=M1 at *
  generalize max M1 (L+B.2)=M2 at *
  generalize opE x=oo at *
  have hno:=eq_false hn
  cases hi with
  |two hk h=>
   refine Evl.of ?_
   rw[h79b,g79b]
   rcases hk with hk|hk<;>(rw[hk,h] at hri;simp[hri,hk,hno,h,ixE0,ixE1,sa,u1,sb])
  |app fn vv hk h hf h2 ho2=>
   rw[hk,h] at hri
   refine Evl.of ?_
   rw[h79b,g79b]
   simp[hri,hk,hno,h,ixE0,ixE1,hf,h2,sa,u1,sb]
theorem rwFb(x:Ex)(hg:x.good=true)(hz:x.size≤1100000)(is:∀y:Ex,y.size<x.size→y.good=true→SRb y)(S:ByteArray)(L M:Nat)(hS:okB S L M x.size):ev (q79d (iv x.kind) (sv x.name) (iv x.n) (iv x.t.kind) (sv x.t.name) (iv x.t.n) (tys x.t.kids) (exs x.kids) (als x.alts) (bds x.binds) (iv x.at_) (sv S) (iv (L:Int)) (iv (M:Int)))=some (0,rs bt S L M (whole (pr true x) false)):=by
 have hri:=rinf_x x hg (by omega)
 obtain⟨s1,s2,s3,s4⟩:=id hS
 obtain⟨hl1,hl2,hl3,hs,hts⟩:=x.len_ok (by omega)
 have hsz:=x.size_eq
 have htp:=x.t.size_pos
 have ik:∀y∈x.kids,SRb y:=fun y hy=>is y (Ex.kid_size hy) (Ex.good_kid hg hy)
 unfold whole
 by_cases k6:x.kind=6
 ·have ho:isOpen (pr true x).1=true:=by show isOpen x=true;unfold isOpen;rw[if_pos k6]
  rw[ho,if_pos rfl,pr_op]
  unfold opT
  obtain⟨a,hk⟩:=Ex.good_one hg (.inl k6)
  have ra:=ik a (by rw[hk];simp)
  rw[hk,sizes1] at hsz
  rw[if_pos k6,hk,kd0]
  have k1:=fun(k:AV→Res)=>cat_k (t:=9) (k:=k) ⟨#[92,32]⟩ x.name (by decide) (by omega)
  have k2:=fun(k:AV→Res)=>cat_k (t:=9) (k:=k) (⟨#[92,32]⟩++x.name) ⟨#[32,45,62]⟩ (by rw[ByteArray.size_append];have:(⟨#[92,32]⟩:ByteArray).size=2:=rfl;omega) (by decide)
  rw[lam_eq] at k2
  have cs:(lamT x.name).size=x.name.size+5:=by unfold lamT;simp only[ByteArray.size_append];have e1:sSp.size=1:=rfl;have e2:wLam.size=1:=rfl;have e3:sArr.size=2:=rfl;omega
  have u1:=put_b (lamT x.name) S L M (by omega) (by omega)
  have z1:=pt_size S (lamT x.name)
  have p1:=ra.part (pt S (lamT x.name)) L M ⟨by omega,by omega,s3,s4⟩
  rw[jn_tk _ _ _ _ _ _ (by omega)] at p1
  unfold rs at p1 ⊢
  rw[k6,hk] at hri
  generalize max M (L+(jn (tkB (lamT x.name)) (part (pr true a))).2)=M1 at *
  refine Evl.of ?_
  rw[h79d,g79d]
  simp[hri,k6,hk,ixE0,k1,k2,u1,p1]
 by_cases k7:x.kind=7
 ·have ho:isOpen (pr true x).1=true:=by show isOpen x=true;unfold isOpen;rw[if_neg k6,if_pos k7]
  rw[ho,if_pos rfl,pr_op]
  unfold opT
  obtain⟨a,hk⟩:=Ex.good_one hg (.inr (.inl k7))
  have ra:=ik a (by rw[hk];simp)
  rw[hk,sizes1] at hsz
  rw[if_neg k6,if_neg (by omega),if_pos k7,hk,kd0]
  have hbl:=(Ex.good_bl hg).2 k7
  have hlet:=fun(w:ByteArray) (hw:w.size≤7) (hw0:0<w.size)=>rletb x x.binds rfl hbl hl3 (fun y hy=>⟨(Ex.good_bind hg hy).1,(Ex.good_bind hg hy).2,is y.e (Ex.bind_size hy).1 (Ex.good_bind hg hy).2,by have:=Bd.mem_le hy;omega⟩) w hw hw0 (tkB eB) (by omega) S L M (by omega) (by omega) ⟨s3,s4⟩
  have hlo:=fun(w:ByteArray) (hw:w.size≤7)=>letT_ok0 true x.binds w (tkB eB) hw hbl (fun y hy=>part_ok true (Ex.good_bind hg hy).2)
  have c1:wLet.size=3:=rfl
  have c2:wIn.size=2:=rfl
  have u1:=put_b wLet S L M (by omega) (by decide)
  have z1:=pt_size S wLet
  rw[k7,hk] at hri
  by_cases kn:x.n=1
  ·rw[if_pos kn]
   have u2:=put_b ⟨#[114,101,99]⟩ (pt S wLet) L M (by omega) (by decide)
   rw[pt_pt (x:=wLet) (by decide),←rec_eq] at u2
   have lp:=hlet wRec (by decide) (by decide)
   obtain⟨q1,q2,q3⟩:=hlo wRec (by decide)
   generalize (letT (x.binds.map (Bd.rc true)) 0 (wRec,tkB eB)).2=C at *
   have z3:=pt_size S C.1
   have u3:=put_b wIn (pt S C.1) L (max M (L+C.2):Nat) (by omega) (by decide)
   have z4:=pt_size (pt S C.1) wIn
   have p1:=ra.part (pt (pt S C.1) wIn) L (max M (L+C.2)) ⟨by omega,by omega,by omega,by omega⟩
   rw[jn_tk _ _ _ _ _ _ (by decide),←rs_jn _ _ _ _ _ _ q1] at p1
   unfold rs at lp p1 ⊢
   rw[hk,kn,k7] at lp
   rw[kn] at hri
   generalize max M (L+C.2)=M1 at *
   generalize max M (L+(jn C (jn (tkB wIn) (part (pr true a)))).2)=M2 at *
   refine Evl.of ?_
   rw[h79d,g79d]
   simp[hri,k7,kn,hk,ixE0,u1,u2,lp,u3,p1]
  ·rw[if_neg kn]
   have lp:=hlet wLet (by decide) (by decide)
   obtain⟨q1,q2,q3⟩:=hlo wLet (by decide)
   generalize (letT (x.binds.map (Bd.rc true)) 0 (wLet,tkB eB)).2=C at *
   have z3:=pt_size S C.1
   have u3:=put_b wIn (pt S C.1) L (max M (L+C.2):Nat) (by omega) (by decide)
   have z4:=pt_size (pt S C.1) wIn
   have p1:=ra.part (pt (pt S C.1) wIn) L (max M (L+C.2)) ⟨by omega,by omega,by omega,by omega⟩
   rw[jn_tk _ _ _ _ _ _ (by decide),←rs_jn _ _ _ _ _ _ q1] at p1
   unfold rs at lp p1 ⊢
   rw[hk,k7] at lp
   generalize max M (L+C.2)=M1 at *
   generalize max M (L+(jn C (jn (tkB wIn) (part (pr true a)))).2)=M2 at *
   refine Evl.of ?_
   rw[h79d,g79d]
   simp[hri,k7,kn,hk,ixE0,u1,lp,u3,p1]
 by_cases k9:x.kind=9
 ·have ho:isOpen (pr true x).1=true:=by show isOpen x=true;unfold isOpen;rw[if_neg k6,if_neg k7];exact decide_eq_true k9
  rw[ho,if_pos rfl,pr_op]
  unfold opT
  obtain⟨a,b,c,hk⟩:=Ex.good_three hg k9
  have ra:=ik a (by rw[hk];simp)
  have rb:=ik b (by rw[hk];simp)
  have rc:=ik c (by rw[hk];simp)
  have hga:=Ex.good_kid hg (y:=a) (by rw[hk];simp)
  have hgb:=Ex.good_kid hg (y:=b) (by rw[hk];simp)
  obtain⟨a1,a2,a3⟩:=part_ok true hga
  obtain⟨b1,b2,b3⟩:=part_ok true hgb
  rw[hk,sizes3] at hsz
  rw[if_neg k6,if_pos k9,hk,kd0,kd1,kd2]
  have c1:wIf.size=2:=rfl
  have c2:wThen.size=4:=rfl
  have c3:wElse.size=4:=rfl
  have u1:=put_b wIf S L M (by omega) (by decide)
  have z1:=pt_size S wIf
  have p1:=ra.part (pt S wIf) L M ⟨by omega,by omega,s3,s4⟩
  have z2:=pt_size (pt S wIf) (part (pr true a)).1
  have u2:=put_b wThen (pt (pt S wIf) (part (pr true a)).1) L (max M (L+(part (pr true a)).2):Nat) (by omega) (by decide)
  have z3:=pt_size (pt (pt S wIf) (part (pr true a)).1) wThen
  have p2:=rb.part (pt (pt (pt S wIf) (part (pr true a)).1) wThen) L (max M (L+(part (pr true a)).2)) ⟨by omega,by omega,by omega,by omega⟩
  have z4:=pt_size (pt (pt (pt S wIf) (part (pr true a)).1) wThen) (part (pr true b)).1
  have u3:=put_b wElse (pt (pt (pt (pt S wIf) (part (pr true a)).1) wThen) (part (pr true b)).1) L (max (max M (L+(part (pr true a)).2)) (L+(part (pr true b)).2):Nat) (by omega) (by decide)
  have z5:=pt_size (pt (pt (pt (pt S wIf) (part (pr true a)).1) wThen) (part (pr true b)).1) wElse
  have p3:=rc.part (pt (pt (pt (pt (pt S wIf) (part (pr true a)).1) wThen) (part (pr true b)).1) wElse) L (max (max M (L+(part (pr true a)).2)) (L+(part (pr true b)).2)) ⟨by omega,by omega,by omega,by omega⟩
  have e3:rs bt S L M (jn (tkB wIf) (jn (part (pr true a)) (jn (tkB wThen) (jn (part (pr true b)) (jn (tkB wElse) (part (pr true c)))))))=rs bt (pt (pt (pt (pt (pt S wIf) (part (pr true a)).1) wThen) (part (pr true b)).1) wElse) L (max (max M (L+(part (pr true a)).2)) (L+(part (pr true b)).2)) (part (pr true c)):=by
   rw[←jn_tk _ _ _ _ _ _ (by decide),rs_jn _ _ _ _ _ _ a1,←jn_tk _ _ _ _ _ _ (by decide),rs_jn _ _ _ _ _ _ b1,←jn_tk _ _ _ _ _ _ (by decide)]
  rw[e3]
  unfold rs at p1 p2 p3 ⊢
  rw[k9,hk] at hri
  generalize max M (L+(part (pr true a)).2)=M1 at *
  generalize max M1 (L+(part (pr true b)).2)=M2 at *
  generalize max M2 (L+(part (pr true c)).2)=M3 at *
  refine Evl.of ?_
  rw[h79d,g79d]
  simp[hri,k9,hk,ixE0,ixE1,ixE2,u1,p1,u2,p2,u3,p3]
 have ho':isOpen x=false:=by unfold isOpen;rw[if_neg k6,if_neg k7];exact decide_eq_false k9
 have ho:isOpen (pr true x).1=false:=ho'
 rw[ho,if_neg (by decide),if_neg (by decide),pr_bf]
 by_cases hn:opE x=eB
 ·unfold bT
  rw[if_pos hn]
  rw[hn] at hri
  by_cases k5:x.kind=5
  ·have ha:=rappb x hg hz ik k5 S L M hS
   rw[pr_ap,if_pos k5] at ha
   rw[if_pos k5]
   unfold rs at ha ⊢
   rw[k5] at hri ha
   generalize max M (L+(apT (x.kids.map (pr true))).2)=M1 at *
   refine Evl.of ?_
   rw[h79d,g79d]
   simp[hri,k5,ha]
  ·rw[if_neg k5]
   have hia:isAtom x=true:=by
    unfold isAtom
    rw[ho',if_neg (by decide),if_neg k5]
    unfold opE at hn
    by_cases c10:x.kind=10
    ·rw[if_pos c10] at hn;exact absurd hn (by decide)
    by_cases c11:x.kind=11
    ·rw[if_neg c10,if_pos c11] at hn;exact absurd hn (by decide)
    rw[if_neg c10]
    simpa using c11
   have ha:=ratomb x hg hz ik (fun y hy=>is y.e (Ex.alt_size hy).1 (Ex.good_alt hg hy).2) hia S L M hS
   rw[pr_at] at ha
   unfold rs at ha ⊢
   generalize max M (L+(atT x (x.kids.map (pr true)) (x.alts.map (Al.rc true))).2)=M1 at *
   refine Evl.of ?_
   rw[h79d,g79d]
   simp[hri,k5,k6,k7,k9,ha]
 ·obtain⟨a,b,hi⟩:=inf_of hg hn
  have hm:=hi.mem
  have hio:=hi.op
  obtain⟨ga,gb⟩:=hm.2 hg
  rw[hi.bT]
  have hp0:=pos_of_ne hn
  have sa:=(is a hm.1.1 ga).ff (opE x) S L M ⟨by omega,by omega,s3,s4⟩
  have oa:=ok_opd (ok_pr true a.size a (Nat.le_refl _) ga) true (opE x) false false
  have e2:(pr true a).1.size=a.size:=rfl
  rw[e2] at oa
  obtain⟨a1,a2,a3⟩:=oa
  have z1:=pt_size S (opd true (pr true a) (opE x) false false).1
  have u1:=put_b (opE x) (pt S (opd true (pr true a) (opE x) false false).1) L (max M (L+(opd true (pr true a) (opE x) false false).2):Nat) (by omega) (by omega)
  have z2:=pt_size (pt S (opd true (pr true a) (opE x) false false).1) (opE x)
  have sb:=(is b hm.1.2.1 gb).tf (opE x) (pt (pt S (opd true (pr true a) (opE x) false false).1) (opE x)) L (max M (L+(opd true (pr true a) (opE x) false false).2)) ⟨by omega,by omega,by omega,by omega⟩
  rw[rs_jn _ _ _ _ _ _ a1,←jn_tk _ _ _ _ _ _ hp0]
  unfold rs at sa sb ⊢
  generalize opd true (pr true a) (opE x) false false=A at *
  generalize opd true (pr true b) (opE x) true false=B at *
  generalize max M (L+A.2)=M1 at *
  generalize max M1 (L+B.2)=M2 at *
  generalize opE x=oo at *
  have hno:=eq_false hn
  cases hi with
  |two hk h=>
   refine Evl.of ?_
   rw[h79d,g79d]
   rcases hk with hk|hk<;>(rw[hk,h] at hri;simp[hri,hk,hno,h,ixE0,ixE1,sa,u1,sb])
  |app fn vv hk h hf h2 ho2=>
   rw[hk,h] at hri
   refine Evl.of ?_
   rw[h79d,g79d]
   simp[hri,hk,hno,h,ixE0,ixE1,hf,h2,sa,u1,sb]
theorem rpartb(x:Ex)(hg:x.good=true)(hz:x.size≤1100000)(is:∀y:Ex,y.size<x.size→y.good=true→SRb y)(S:ByteArray)(L M:Nat)(s1:S.size+600*x.size≤1000000000)(s2:L+8*x.size+3≤500000000)(s3:L≤M)(s4:M≤500000000):ev (q38b (iv x.kind) (sv x.name) (iv x.n) (iv x.t.kind) (sv x.t.name) (iv x.t.n) (tys x.t.kids) (exs x.kids) (als x.alts) (bds x.binds) (iv x.at_) (sv S) (iv (L:Int)) (iv (M:Int)))=some (0,rs bt S L M (part (pr true x))):=by
 have w1:IntKind.i64.wrap ((L:Int)+1)=((L+1:Nat):Int):=by rw[wrap_id (by omega)];omega
 obtain⟨L1,hL1⟩:∃L1,L1=L+1:=⟨_,rfl⟩
 have w2:IntKind.i64.wrap ((L1:Int)-1)=(L:Int):=by rw[wrap_id (by omega)];omega
 rw[←hL1] at w1
 by_cases c:M<L1
 ·have hw:=rwTb x hg hz is S L1 L1 ⟨s1,by omega,by omega,by omega⟩
  have e:rs bt S L M (part (pr true x))=[sv (pt S (whole (pr true x) true).1),iv (L:Int),iv ((max L1 (L1+(whole (pr true x) true).2):Nat):Int),bt]:=by
   unfold rs part lv
   have:max M (L+((whole (pr true x) true).2+1))=max L1 (L1+(whole (pr true x) true).2):=by omega
   simp only[this]
  rw[e]
  unfold rs at hw
  have c2:(M:Int)<(L1:Int):=by omega
  generalize max L1 (L1+(whole (pr true x) true).2)=M1 at *
  refine Evl.of ?_
  rw[h38b,g38b]
  simp[w1,w2,c,c2,hw]
 ·have hw:=rwTb x hg hz is S L1 M ⟨s1,by omega,by omega,by omega⟩
  have e:rs bt S L M (part (pr true x))=[sv (pt S (whole (pr true x) true).1),iv (L:Int),iv ((max M (L1+(whole (pr true x) true).2):Nat):Int),bt]:=by
   unfold rs part lv
   have:max M (L+((whole (pr true x) true).2+1))=max M (L1+(whole (pr true x) true).2):=by omega
   simp only[this]
  rw[e]
  unfold rs at hw
  have c2:¬(M:Int)<(L1:Int):=by omega
  generalize max M (L1+(whole (pr true x) true).2)=M1 at *
  refine Evl.of ?_
  rw[h38b,g38b]
  simp[w1,w2,c,c2,hw]
theorem rbrb(x:Ex)(hg:x.good=true)(hz:x.size≤1100000)(is:∀y:Ex,y.size<x.size→y.good=true→SRb y)(S:ByteArray)(L M:Nat)(hS:okS S L M x.size):ev (q156b (iv x.kind) (sv x.name) (iv x.n) (iv x.t.kind) (sv x.t.name) (iv x.t.n) (tys x.t.kids) (exs x.kids) (als x.alts) (bds x.binds) (iv x.at_) (sv S) (iv (L:Int)) (iv (M:Int)))=some (0,rs bt S L M (br (whole (pr true x) true))):=by
 obtain⟨s1,s2,s3,s4⟩:=hS
 have c1:sL1.size=1:=rfl
 have u1:=put_b sL1 S L M (by omega) (by decide)
 have z1:=pt_size S sL1
 have p1:=rpartb x hg hz is (pt S sL1) L M (by omega) (by omega) s3 s4
 obtain⟨a1,a2,a3⟩:=part_ok true hg
 have z2:=pt_size (pt S sL1) (part (pr true x)).1
 have u2:=put_b sR1 (pt (pt S sL1) (part (pr true x)).1) L (max M (L+(part (pr true x)).2):Nat) (by omega) (by decide)
 have e:rs bt S L M (br (whole (pr true x) true))=[sv (pt (pt (pt S sL1) (part (pr true x)).1) sR1),iv (L:Int),iv ((max M (L+(part (pr true x)).2):Nat):Int),bt]:=by
  have e0:br (whole (pr true x) true)=jn (tkB sL1) (jn (part (pr true x)) (tkB sR1)):=rfl
  rw[e0,←jn_tk _ _ _ _ _ _ (by decide),rs_jn _ _ _ _ _ _ a1,rs_tk _ trivial (by omega)]
 rw[e]
 unfold rs at p1
 generalize max M (L+(part (pr true x)).2)=M1 at *
 refine Evl.of ?_
 rw[h156b,g156b]
 simp[u1,p1,u2]
theorem srb:∀(n:Nat) (x:Ex),x.size≤n→n≤1100000→x.good=true→SRb x:=by
 intro n
 induction n with
 |zero=>intro x h _ _;have:=x.size_pos;omega
 |succ n ih=>
  intro x h hn hg
  have hz:x.size≤1100000:=by omega
  have is:∀y:Ex,y.size<x.size→y.good=true→SRb y:=fun y hy hgy=>ih y (by omega) (by omega) hgy
  have ik:∀y∈x.kids,SRb y:=fun y hy=>is y (Ex.kid_size hy) (Ex.good_kid hg hy)
  have hop:=ropen_x x
  have hri:=rinf_x x hg (by omega)
  refine⟨?_,?_,?_,?_,?_,?_⟩
  ·intro S L M hS
   obtain⟨s1,s2,s3,s4⟩:=hS
   exact rpartb x hg hz is S L M (by omega) (by omega) s3 s4
  ·intro k5 S L M hS
   exact rappb x hg hz ik k5 S L M hS.b
  ·intro S L M hS
   have hbr:=rbrb x hg hz is S L M hS
   unfold arg
   cases ho:isOpen x
   ·rw[ho] at hop
    by_cases k5:x.kind=5
    ·have e:isAtom (pr true x).1=false:=by show isAtom x=false;unfold isAtom;rw[ho,if_neg (by decide),if_pos k5]
     rw[e,if_neg (by decide)]
     unfold rs at hbr ⊢
     generalize max M (L+(br (whole (pr true x) true)).2)=M1 at *
     rw[k5] at hop hbr
     refine Evl.of ?_
     rw[h158b,g158b]
     simp[hop,k5,hbr]
    by_cases k10:x.kind=10
    ·have e:isAtom (pr true x).1=false:=by show isAtom x=false;unfold isAtom;rw[ho,if_neg (by decide),if_neg k5,if_pos k10]
     rw[e,if_neg (by decide)]
     unfold rs at hbr ⊢
     generalize max M (L+(br (whole (pr true x) true)).2)=M1 at *
     rw[k10] at hop hbr
     refine Evl.of ?_
     rw[h158b,g158b]
     simp[hop,k10,hbr]
    by_cases k11:x.kind=11
    ·have e:isAtom (pr true x).1=false:=by show isAtom x=false;unfold isAtom;rw[ho,if_neg (by decide),if_neg k5,if_neg k10];simp[k11]
     rw[e,if_neg (by decide)]
     unfold rs at hbr ⊢
     generalize max M (L+(br (whole (pr true x) true)).2)=M1 at *
     rw[k11] at hop hbr
     refine Evl.of ?_
     rw[h158b,g158b]
     simp[hop,k11,hbr]
    ·have e:isAtom x=true:=by unfold isAtom;rw[ho,if_neg (by decide),if_neg k5,if_neg k10];simp[k11]
     have e':isAtom (pr true x).1=true:=e
     have ha:=ratomb x hg hz ik (fun y hy=>is y.e (Ex.alt_size hy).1 (Ex.good_alt hg hy).2) e S L M hS.b
     rw[e',if_pos rfl]
     unfold rs at ha ⊢
     generalize max M (L+(pr true x).2.at_.2)=M1 at *
     refine Evl.of ?_
     rw[h158b,g158b]
     simp[hop,k5,k10,k11,ha]
   ·rw[ho] at hop
    have e:isAtom (pr true x).1=false:=by show isAtom x=false;unfold isAtom;rw[ho,if_pos rfl]
    rw[e,if_neg (by decide)]
    unfold rs at hbr ⊢
    generalize max M (L+(br (whole (pr true x) true)).2)=M1 at *
    refine Evl.of ?_
    rw[h158b,g158b]
    simp[hop,hbr]
  ·intro o S L M hS
   have hbr:=rbrb x hg hz is S L M hS
   have hw:=rwFb x hg hz is S L M hS.b
   unfold opd
   cases ho:isOpen x
   ·rw[ho] at hop
    have e:isOpen (pr true x).1=false:=ho
    rw[e,if_neg (by decide)]
    have ew:whole (pr true x) false=(pr true x).2.bf:=by unfold whole;rw[e,if_neg (by decide),if_neg (by decide)]
    rw[ew] at hw
    by_cases hn:opE x=eB
    ·have e2:¬(¬opE (pr true x).1=eB∧needs o (opE (pr true x).1) false=true):=fun h=>h.1 hn
     rw[if_neg e2,if_neg (by decide)]
     rw[hn] at hri
     unfold rs at hw ⊢
     generalize max M (L+(pr true x).2.bf.2)=M1 at *
     refine Evl.of ?_
     rw[h122c,g122c]
     simp[hop,hri,hw]
    ·have hnd:=rneeds_g1 o (opE x)
     cases hq:needs o (opE x) false
     ·rw[hq] at hnd
      have e2:¬(¬opE (pr true x).1=eB∧needs o (opE (pr true x).1) false=true):=fun h=>by have h3:needs o (opE x) false=true:=h.2;rw[hq] at h3;cases h3
      rw[if_neg e2,if_neg (by decide)]
      unfold rs at hw ⊢
      generalize max M (L+(pr true x).2.bf.2)=M1 at *
      refine Evl.of ?_
      rw[h122c,g122c]
      simp[hop,hri,eq_false hn,hnd,hw]
     ·rw[hq] at hnd
      have e2:¬opE (pr true x).1=eB∧needs o (opE (pr true x).1) false=true:=⟨hn,hq⟩
      rw[if_pos e2]
      unfold grp
      by_cases k5:x.kind=5
      ·have e5:(pr true x).1.kind=5:=k5
       rw[if_pos ⟨rfl,e5⟩]
       have ha:=rappb x hg hz ik k5 S L M hS.b
       unfold rs at ha ⊢
       generalize max M (L+(pr true x).2.ap.2)=M1 at *
       rw[k5] at hop hri ha
       refine Evl.of ?_
       rw[h122c,g122c]
       simp[hop,hri,eq_false hn,hnd,k5,ha]
      ·have e5:¬(pr true x).1.kind=5:=k5
       rw[if_neg (fun h=>e5 h.2)]
       have ewt:whole (pr true x) true=(pr true x).2.bt:=by unfold whole;rw[e,if_neg (by decide),if_pos rfl]
       rw[ewt] at hbr
       unfold rs at hbr ⊢
       generalize max M (L+(br (pr true x).2.bt).2)=M1 at *
       refine Evl.of ?_
       rw[h122c,g122c]
       simp[hop,hri,eq_false hn,hnd,k5,hbr]
   ·rw[ho] at hop
    have e:isOpen (pr true x).1=true:=ho
    have ew:whole (pr true x) true=(pr true x).2.op:=by unfold whole;rw[e,if_pos rfl]
    rw[ew] at hbr
    rw[e,if_pos rfl,if_neg (by decide)]
    unfold rs at hbr ⊢
    generalize max M (L+(br (pr true x).2.op).2)=M1 at *
    refine Evl.of ?_
    rw[h122c,g122c]
    simp[hop,hri,hbr]
  ·intro o S L M hS
   have hbr:=rbrb x hg hz is S L M hS
   have hw:=rwTb x hg hz is S L M hS.b
   unfold opd
   cases ho:isOpen x
   ·rw[ho] at hop
    have e:isOpen (pr true x).1=false:=ho
    rw[e,if_neg (by decide)]
    have ew:whole (pr true x) true=(pr true x).2.bt:=by unfold whole;rw[e,if_neg (by decide),if_pos rfl]
    rw[ew] at hw
    by_cases hn:opE x=eB
    ·have e2:¬(¬opE (pr true x).1=eB∧needs o (opE (pr true x).1) true=true):=fun h=>h.1 hn
     rw[if_neg e2,if_pos rfl]
     rw[hn] at hri
     unfold rs at hw ⊢
     generalize max M (L+(pr true x).2.bt.2)=M1 at *
     refine Evl.of ?_
     rw[h122d,g122d]
     simp[hop,hri,hw]
    ·have hnd:=rneeds_g0 o (opE x)
     cases hq:needs o (opE x) true
     ·rw[hq] at hnd
      have e2:¬(¬opE (pr true x).1=eB∧needs o (opE (pr true x).1) true=true):=fun h=>by have h3:needs o (opE x) true=true:=h.2;rw[hq] at h3;cases h3
      rw[if_neg e2,if_pos rfl]
      unfold rs at hw ⊢
      generalize max M (L+(pr true x).2.bt.2)=M1 at *
      refine Evl.of ?_
      rw[h122d,g122d]
      simp[hop,hri,eq_false hn,hnd,hw]
     ·rw[hq] at hnd
      have e2:¬opE (pr true x).1=eB∧needs o (opE (pr true x).1) true=true:=⟨hn,hq⟩
      rw[if_pos e2]
      unfold grp
      by_cases k5:x.kind=5
      ·have e5:(pr true x).1.kind=5:=k5
       rw[if_pos ⟨rfl,e5⟩]
       have ha:=rappb x hg hz ik k5 S L M hS.b
       unfold rs at ha ⊢
       generalize max M (L+(pr true x).2.ap.2)=M1 at *
       rw[k5] at hop hri ha
       refine Evl.of ?_
       rw[h122d,g122d]
       simp[hop,hri,eq_false hn,hnd,k5,ha]
      ·have e5:¬(pr true x).1.kind=5:=k5
       rw[if_neg (fun h=>e5 h.2)]
       have ewt:whole (pr true x) true=(pr true x).2.bt:=by unfold whole;rw[e,if_neg (by decide),if_pos rfl]
       rw[ewt] at hbr
       unfold rs at hbr ⊢
       generalize max M (L+(br (pr true x).2.bt).2)=M1 at *
       refine Evl.of ?_
       rw[h122d,g122d]
       simp[hop,hri,eq_false hn,hnd,k5,hbr]
   ·rw[ho] at hop
    have e:isOpen (pr true x).1=true:=ho
    have ew:whole (pr true x) true=(pr true x).2.op:=by unfold whole;rw[e,if_pos rfl]
    have hopE:opE x=eB:=opE_open (by unfold isOpen at ho;refine⟨?_,?_,?_⟩<;>(intro h;rw[h] at ho;simp at ho))
    rw[hopE] at hri
    rw[ew] at hw
    rw[e,if_pos rfl,if_pos ⟨rfl,rfl⟩]
    unfold rs at hw ⊢
    generalize max M (L+(pr true x).2.op.2)=M1 at *
    refine Evl.of ?_
    rw[h122d,g122d]
    simp[hop,hri,hw]
  ·intro o S L M hS
   have hbr:=rbrb x hg hz is S L M hS
   have hw:=rwFb x hg hz is S L M hS.b
   unfold opd
   cases ho:isOpen x
   ·rw[ho] at hop
    have e:isOpen (pr true x).1=false:=ho
    rw[e,if_neg (by decide)]
    have ew:whole (pr true x) false=(pr true x).2.bf:=by unfold whole;rw[e,if_neg (by decide),if_neg (by decide)]
    rw[ew] at hw
    by_cases hn:opE x=eB
    ·have e2:¬(¬opE (pr true x).1=eB∧needs o (opE (pr true x).1) true=true):=fun h=>h.1 hn
     rw[if_neg e2,if_neg (by decide)]
     rw[hn] at hri
     unfold rs at hw ⊢
     generalize max M (L+(pr true x).2.bf.2)=M1 at *
     refine Evl.of ?_
     rw[h122f,g122f]
     simp[hop,hri,hw]
    ·have hnd:=rneeds_g0 o (opE x)
     cases hq:needs o (opE x) true
     ·rw[hq] at hnd
      have e2:¬(¬opE (pr true x).1=eB∧needs o (opE (pr true x).1) true=true):=fun h=>by have h3:needs o (opE x) true=true:=h.2;rw[hq] at h3;cases h3
      rw[if_neg e2,if_neg (by decide)]
      unfold rs at hw ⊢
      generalize max M (L+(pr true x).2.bf.2)=M1 at *
      refine Evl.of ?_
      rw[h122f,g122f]
      simp[hop,hri,eq_false hn,hnd,hw]
     ·rw[hq] at hnd
      have e2:¬opE (pr true x).1=eB∧needs o (opE (pr true x).1) true=true:=⟨hn,hq⟩
      rw[if_pos e2]
      unfold grp
      by_cases k5:x.kind=5
      ·have e5:(pr true x).1.kind=5:=k5
       rw[if_pos ⟨rfl,e5⟩]
       have ha:=rappb x hg hz ik k5 S L M hS.b
       unfold rs at ha ⊢
       generalize max M (L+(pr true x).2.ap.2)=M1 at *
       rw[k5] at hop hri ha
       refine Evl.of ?_
       rw[h122f,g122f]
       simp[hop,hri,eq_false hn,hnd,k5,ha]
      ·have e5:¬(pr true x).1.kind=5:=k5
       rw[if_neg (fun h=>e5 h.2)]
       have ewt:whole (pr true x) true=(pr true x).2.bt:=by unfold whole;rw[e,if_neg (by decide),if_pos rfl]
       rw[ewt] at hbr
       unfold rs at hbr ⊢
       generalize max M (L+(br (pr true x).2.bt).2)=M1 at *
       refine Evl.of ?_
       rw[h122f,g122f]
       simp[hop,hri,eq_false hn,hnd,k5,hbr]
   ·rw[ho] at hop
    have e:isOpen (pr true x).1=true:=ho
    have ew:whole (pr true x) true=(pr true x).2.op:=by unfold whole;rw[e,if_pos rfl]
    rw[ew] at hbr
    rw[e,if_pos rfl,if_neg (by decide)]
    unfold rs at hbr ⊢
    generalize max M (L+(br (pr true x).2.op).2)=M1 at *
    refine Evl.of ?_
    rw[h122f,g122f]
    simp[hop,hri,hbr]
end Go.Proofs.YtkamjbmjjhbjcaaGreatDoor
