/- Joined texts. -/
import Derived.Test.YtfphhabaeggenaaDoorBo
import Derived.Test.YtfphhabaeggenaaDoorBi
import Derived.Test.YtfphhabaeggenaaDoorMzR
import Derived.Test.YtfphhabaeggenaaDoorBj
set_option linter.all false
namespace Go.Proofs.YtfphhabaeggenaaDoor
open Go.RowKit
set_option linter.all false
set_option maxRecDepth 20000
theorem uS:PG.underlying 9=some .string:=by kernel_rfl
theorem bin_cat{P:Program}{t:TypeId}{r:AV}{x y:ByteArray}(h:x.size+y.size≤9223372036854775807):BinOk P .add t (.pv (.lit (.string x))) (.pv (.lit (.string y))) r↔r=.pv (.lit (.string (x++y))):=BinOk.iff fun a b=>by
 have e:binA P .add t a b (.pv (.lit (.string x))) (.pv (.lit (.string y)))=(match pureRun P (Op.stringOp .add x y) with|some r=>ofVal r|none=>none):=rfl
 have h2:¬(((x.size+y.size:Nat):Int)>IntKind.i64.max):=by
  have:IntKind.i64.max=9223372036854775807:=by decide
  omega
 have h3:pureRun P (Op.stringOp .add x y)=some (.string (x++y)):=by
  unfold Op.stringOp
  simp only
  rw[if_neg h2]
  rfl
 rw[e,h3]
 rfl
theorem ev_fx{q:Q}{r:Rs}{ent:Ent}{sh:Shape}{args:List AV}{h h':List AObj}{v:AV}(he:EE q.k=ent)(hl:ent.lp=none)(hs:shp SS EE q.k r.1=sh)(ha:openAVs (nm q.xs) ent.args=args)(hh:openH (nm q.xs) ent.h=h)(hv:openAV (nm r.2) sh.v=v)(hh':openH (nm r.2) sh.h=h')
  (hn:q.xs.length=ent.n) (hr:ent.rin=[]) (hns:NSL q.xs) (h0:ev q=some r):Sem Tryd.prog ent.f args h v h'∧NSL r.2:=by
 obtain⟨h1,h2⟩:=ev_sound h0 ⟨by rw[he];exact hn,hns,by rw[he,hr];intro i hi;cases hi⟩
 refine⟨?_,h2.ns⟩
 unfold SemQ at h1
 rw[he,hl] at h1
 simp only at h1
 rw[hs,ha,hh,hv,hh'] at h1
 exact h1
theorem sem6{b:ByteArray}{c0 c1 c2 c3 c4 c5 c6 c7 c8 c9 c10 c11 c12:PV}(h:ev (q6 (sv b))=some (0,[c0,c1,c2,c3,c4,c5,c6,c7,c8,c9,c10,c11,c12])):Sem Tryd.prog 6 [.pv (sv b)] [] (.tup [.agg [.pv c0,.pv c1,.pv c2,.pv c3,.pv c4,.pv c5,.pv c6,.pv c7,.pv c8,.pv c9,.pv c10],.agg [.pv c11,.pv c12]]) []∧NSL [c0,c1,c2,c3,c4,c5,c6,c7,c8,c9,c10,c11,c12]:=by
 have g:=ev_fx (q:=q6 (sv b)) (r:=(0,[c0,c1,c2,c3,c4,c5,c6,c7,c8,c9,c10,c11,c12])) (ent:=EE 20) (sh:=shp SS EE 20 0) (args:=[.pv (sv b)]) (h:=[]) (v:=.tup [.agg [.pv c0,.pv c1,.pv c2,.pv c3,.pv c4,.pv c5,.pv c6,.pv c7,.pv c8,.pv c9,.pv c10],.agg [.pv c11,.pv c12]]) (h':=[]) rfl (by kernel_rfl) rfl (by kernel_rfl) (by kernel_rfl) (by kernel_rfl) (by kernel_rfl) (by kernel_rfl) (by kernel_rfl) (fun p hp=>by rw[List.mem_singleton.1 hp];exact .lit _) h
 have hf:(EE 20).f=6:=by kernel_rfl
 rw[hf] at g
 exact g
theorem sem7{a c0 c1 c2 c3 c4 c5:PV}(hn:NSL [a])(h:ev (q7 a)=some (0,[c0,c1,c2,c3,c4,c5])):Sem Tryd.prog 7 [.pv a] [] (.tup [.agg [.pv c0,.pv c1,.pv c2,.pv c3],.agg [.pv c4,.pv c5]]) []∧NSL [c0,c1,c2,c3,c4,c5]:=by
 have g:=ev_fx (q:=q7 a) (r:=(0,[c0,c1,c2,c3,c4,c5])) (ent:=EE 19) (sh:=shp SS EE 19 0) (args:=[.pv a]) (h:=[]) (v:=.tup [.agg [.pv c0,.pv c1,.pv c2,.pv c3],.agg [.pv c4,.pv c5]]) (h':=[]) rfl (by kernel_rfl) rfl (by kernel_rfl) (by kernel_rfl) (by kernel_rfl) (by kernel_rfl) (by kernel_rfl) (by kernel_rfl) hn h
 have hf:(EE 19).f=7:=by kernel_rfl
 rw[hf] at g
 exact g
theorem sem8{c0 c1 c2 c3 c4 c5 c6 c7:PV}(hn:NSL [c0,c1,c2,c3,c4,c5,c6,c7])(h:ev (q8 c0 c1 c2 c3 c4 c5 c6 c7)=some (0,[bv true])):Sem Tryd.prog 8 [.agg [.pv c0,.pv c1,.pv c2,.pv c3],.agg [.pv c4,.pv c5,.pv c6,.pv c7]] [] (.pv (bv true)) []:=by
 have g:=ev_fx (q:=q8 c0 c1 c2 c3 c4 c5 c6 c7) (r:=(0,[bv true])) (ent:=EE 126) (sh:=shp SS EE 126 0) (args:=[.agg [.pv c0,.pv c1,.pv c2,.pv c3],.agg [.pv c4,.pv c5,.pv c6,.pv c7]]) (h:=[]) (v:=.pv (bv true)) (h':=[]) rfl (by kernel_rfl) rfl (by kernel_rfl) (by kernel_rfl) (by kernel_rfl) (by kernel_rfl) (by kernel_rfl) (by kernel_rfl) hn h
 have hf:(EE 126).f=8:=by kernel_rfl
 rw[hf] at g
 exact g.1
theorem sem9{c0 c1 c2 c3 c4 c5 c6 c7 c8 c9 c10 c11 c12 c13 c14 c15 c16 c17 c18 c19 c20 c21:PV}(hn:NSL [c0,c1,c2,c3,c4,c5,c6,c7,c8,c9,c10,c11,c12,c13,c14,c15,c16,c17,c18,c19,c20,c21])(h:ev (q9 c0 c1 c2 c3 c4 c5 c6 c7 c8 c9 c10 c11 c12 c13 c14 c15 c16 c17 c18 c19 c20 c21)=some (0,[bv true])):Sem Tryd.prog 9 [.agg [.pv c0,.pv c1,.pv c2,.pv c3,.pv c4,.pv c5,.pv c6,.pv c7,.pv c8,.pv c9,.pv c10],.agg [.pv c11,.pv c12,.pv c13,.pv c14,.pv c15,.pv c16,.pv c17,.pv c18,.pv c19,.pv c20,.pv c21]] [] (.pv (bv true)) []:=by
 have g:=ev_fx (q:=q9 c0 c1 c2 c3 c4 c5 c6 c7 c8 c9 c10 c11 c12 c13 c14 c15 c16 c17 c18 c19 c20 c21) (r:=(0,[bv true])) (ent:=EE 130) (sh:=shp SS EE 130 0) (args:=[.agg [.pv c0,.pv c1,.pv c2,.pv c3,.pv c4,.pv c5,.pv c6,.pv c7,.pv c8,.pv c9,.pv c10],.agg [.pv c11,.pv c12,.pv c13,.pv c14,.pv c15,.pv c16,.pv c17,.pv c18,.pv c19,.pv c20,.pv c21]]) (h:=[]) (v:=.pv (bv true)) (h':=[]) rfl (by kernel_rfl) rfl (by kernel_rfl) (by kernel_rfl) (by kernel_rfl) (by kernel_rfl) (by kernel_rfl) (by kernel_rfl) hn h
 have hf:(EE 130).f=9:=by kernel_rfl
 rw[hf] at g
 exact g.1
theorem exN_of:∀(m:Nat) (l vs:List PV) (X:List PV→Prop),vs.length=m→NSL vs→X (l++vs)→exN m l X
 |0,l,vs,X,hm,_,h=>by
  obtain rfl:=List.length_eq_zero_iff.1 hm
  rw[List.append_nil] at h
  exact h
 |m+1,l,vs,X,hm,hn,h=>by
  cases vs with
  |nil=>cases hm
  |cons v vs=>
   rw[exN]
   refine⟨v,exN_of m (l++[v]) vs _ (by simpa using hm) (fun p hp=>hn p (List.mem_cons_of_mem _ hp)) ⟨?_,hn v (List.mem_cons_self ..)⟩⟩
   rw[List.append_assoc]
   exact h
section
variable{P:Program}{fn:Func}{l xs:List PV}{t t':Tr}{o:Out}
theorem dSay{f:SF}(x:PV)(hx:NS x)(h:f.ok (nm (l++(xs++[x]))) P)(k:Den P fn t (l++(xs++[x])) o):Den P fn (.say f 1 t) (l++xs) o:=by
 rw[Den]
 refine exN_of 1 _ [x] _ rfl (fun p hp=>by rw[List.mem_singleton.1 hp];exact hx) ?_
 rw[List.append_assoc]
 exact⟨h,k⟩
theorem dSay0{f:SF}(h:f.ok (nm (l++xs)) P)(k:Den P fn t (l++xs) o):Den P fn (.say f 0 t) (l++xs) o:=by
 rw[Den]
 exact⟨h,k⟩
theorem dL(k:Den P fn t (l++xs) o):Den P fn (.alt t t') (l++xs) o:=by rw[Den];exact .inl k
theorem dR(k:Den P fn t' (l++xs) o):Den P fn (.alt t t') (l++xs) o:=by rw[Den];exact .inr k
theorem dCall{f m:Nat}{args:List AV}{v:AV}(ys:List PV)(hm:ys.length=m)(hs:Sem P f (openAVs (nm (l++(xs++ys))) args) [] (openAV (nm (l++(xs++ys))) v) []∧NSL ys)(k:Den P fn t (l++(xs++ys)) o):Den P fn (.call ⟨f,args,[],v,[]⟩ m t) (l++xs) o:=by
 rw[Den]
 refine exN_of m _ ys _ hm hs.2 ?_
 rw[List.append_assoc]
 exact⟨⟨hs.1,trivial,trivial⟩,k⟩
theorem dRet(b:Bool)(k:Out.ret (.pv (bv b)) []=o):Den P fn (.ret (.pv (.lit (.bool b))) []) (l++xs) o:=by
 rw[Den]
 exact⟨k.symm,trivial,trivial⟩
theorem zzSay{f:SF}(x:PV)(hx:NS x)(h:f.ok (nm (l++[x])) P)(k:Den P fn t (l++[x]) o):Den P fn (.say f 1 t) l o:=by
 rw[Den]
 exact exN_of 1 _ [x] _ rfl (fun p hp=>by rw[List.mem_singleton.1 hp];exact hx) ⟨h,k⟩
theorem zzSay0{f:SF}(h:f.ok (nm l) P)(k:Den P fn t l o):Den P fn (.say f 0 t) l o:=by
 rw[Den]
 exact⟨h,k⟩
theorem zzL(k:Den P fn t l o):Den P fn (.alt t t') l o:=by rw[Den];exact .inl k
theorem zzR(k:Den P fn t' l o):Den P fn (.alt t t') l o:=by rw[Den];exact .inr k
theorem zzCall{f m:Nat}{args:List AV}{v:AV}(ys:List PV)(hm:ys.length=m)(hs:Sem P f (openAVs (nm (l++ys)) args) [] (openAV (nm (l++ys)) v) []∧NSL ys)(k:Den P fn t (l++ys) o):Den P fn (.call ⟨f,args,[],v,[]⟩ m t) l o:=by
 rw[Den]
 exact exN_of m _ ys _ hm hs.2 ⟨⟨hs.1,trivial,trivial⟩,k⟩
theorem zzRet(b:Bool)(k:Out.ret (.pv (bv b)) []=o):Den P fn (.ret (.pv (.lit (.bool b))) []) l o:=by
 rw[Den]
 exact⟨k.symm,trivial,trivial⟩
theorem nm_at(l xs:List PV)(i:Nat):nm (l++xs) (l.length+i)=nm xs i:=by
 unfold nm
 rw[List.getD_eq_getElem?_getD,List.getD_eq_getElem?_getD,List.getElem?_append_right (Nat.le_add_right ..),Nat.add_sub_cancel_left]
theorem nm_0(x:PV)(r xs:List PV):nm ((x::r)++xs) 0=x:=rfl
end
set_option linter.all false
set_option maxRecDepth 20000
def tailT(n:Nat):Tr:=.call ⟨6,[.pv (.sym 0)],[],.tup [.agg [.pv (.sym (n+0)),.pv (.sym (n+1)),.pv (.sym (n+2)),.pv (.sym (n+3)),.pv (.sym (n+4)),.pv (.sym (n+5)),.pv (.sym (n+6)),.pv (.sym (n+7)),.pv (.sym (n+8)),.pv (.sym (n+9)),.pv (.sym (n+10))],.agg [.pv (.sym (n+11)),.pv (.sym (n+12))]],[]⟩ 13 (.say (.bin .add 9 (.pv (.lit (.string ⟨#[32,40,10]⟩))) (.pv (.sym 0)) (.pv (.sym (n+13)))) 1 (.say (.bin .add 9 (.pv (.sym (n+13))) (.pv (.lit (.string ⟨#[10,41,9]⟩))) (.pv (.sym (n+14)))) 1 (.call ⟨6,[.pv (.sym (n+14))],[],.tup [.agg [.pv (.sym (n+15)),.pv (.sym (n+16)),.pv (.sym (n+17)),.pv (.sym (n+18)),.pv (.sym (n+19)),.pv (.sym (n+20)),.pv (.sym (n+21)),.pv (.sym (n+22)),.pv (.sym (n+23)),.pv (.sym (n+24)),.pv (.sym (n+25))],.agg [.pv (.sym (n+26)),.pv (.sym (n+27))]],[]⟩ 13 (.alt (.say (.bin .neq 33 (.pv (.sym (n+11))) (.pv (.lit (.int .i64 0))) (.pv (.lit (.bool true)))) 0 (.ret (.pv (.lit (.bool true))) [])) (.say (.bin .neq 33 (.pv (.sym (n+11))) (.pv (.lit (.int .i64 0))) (.pv (.lit (.bool false)))) 0 (.alt (.say (.bin .eql 33 (.pv (.sym (n+26))) (.pv (.lit (.int .i64 111))) (.pv (.lit (.bool true)))) 0 (.ret (.pv (.lit (.bool true))) [])) (.say (.bin .eql 33 (.pv (.sym (n+26))) (.pv (.lit (.int .i64 111))) (.pv (.lit (.bool false)))) 0 (.alt (.say (.bin .eql 33 (.pv (.sym (n+26))) (.pv (.lit (.int .i64 0))) (.pv (.lit (.bool true)))) 0 (.alt (.call ⟨9,[.agg [.pv (.sym (n+0)),.pv (.sym (n+1)),.pv (.sym (n+2)),.pv (.sym (n+3)),.pv (.sym (n+4)),.pv (.sym (n+5)),.pv (.sym (n+6)),.pv (.sym (n+7)),.pv (.sym (n+8)),.pv (.sym (n+9)),.pv (.sym (n+10))],.agg [.pv (.sym (n+15)),.pv (.sym (n+16)),.pv (.sym (n+17)),.pv (.sym (n+18)),.pv (.sym (n+19)),.pv (.sym (n+20)),.pv (.sym (n+21)),.pv (.sym (n+22)),.pv (.sym (n+23)),.pv (.sym (n+24)),.pv (.sym (n+25))]],[],.pv (.lit (.bool true)),[]⟩ 0 (.ret (.pv (.lit (.bool true))) [])) (.call ⟨9,[.agg [.pv (.sym (n+0)),.pv (.sym (n+1)),.pv (.sym (n+2)),.pv (.sym (n+3)),.pv (.sym (n+4)),.pv (.sym (n+5)),.pv (.sym (n+6)),.pv (.sym (n+7)),.pv (.sym (n+8)),.pv (.sym (n+9)),.pv (.sym (n+10))],.agg [.pv (.sym (n+15)),.pv (.sym (n+16)),.pv (.sym (n+17)),.pv (.sym (n+18)),.pv (.sym (n+19)),.pv (.sym (n+20)),.pv (.sym (n+21)),.pv (.sym (n+22)),.pv (.sym (n+23)),.pv (.sym (n+24)),.pv (.sym (n+25))]],[],.pv (.lit (.bool false)),[]⟩ 0 (.ret (.pv (.lit (.bool false))) [])))) (.say (.bin .eql 33 (.pv (.sym (n+26))) (.pv (.lit (.int .i64 0))) (.pv (.lit (.bool false)))) 0 (.ret (.pv (.lit (.bool false))) []))))))))))
abbrev tO:Out:=.ret (.pv (bv true)) []
theorem br_data(a:ByteArray):((⟨#[32,40,10]⟩:ByteArray)++a++⟨#[10,41,9]⟩).data.toList=brL a.data.toList:=by
 simp[ByteArray.data_append,brL]
theorem cat_data(a b:ByteArray):(a++(⟨#[10]⟩:ByteArray)++b).data.toList=a.data.toList++10::b.data.toList:=by
 simp[ByteArray.data_append]
theorem size3(a:ByteArray):((⟨#[32,40,10]⟩:ByteArray)++a).size=3+a.size:=by rw[ByteArray.size_append];rfl
theorem size6(a:ByteArray):((⟨#[32,40,10]⟩:ByteArray)++a++⟨#[10,41,9]⟩).size=6+a.size:=by rw[ByteArray.size_append,size3];show 3+a.size+3=_;omega
theorem size1(a:ByteArray):(a++(⟨#[10]⟩:ByteArray)).size=a.size+1:=by rw[ByteArray.size_append];rfl
theorem sizeB(a b:ByteArray):(a++(⟨#[10]⟩:ByteArray)++b).size=a.size+1+b.size:=by rw[ByteArray.size_append,size1]
theorem tail_go{a:ByteArray}(ha:a.size≤2000)(l:List PV)(h0:∀xs,nm (l++xs) 0=sv a):Den PG Tryd.f4 (tailT l.length) (l++[]) tO:=by
 have hat:∀xs i,nm (l++xs) (l.length+i)=nm xs i:=nm_at l
 have hd:=br_data a
 have z3:=size3 a
 have z6:=size6 a
 have c1:(⟨#[32,40,10]⟩:ByteArray).size=3:=rfl
 have c2:(⟨#[10,41,9]⟩:ByteArray).size=3:=rfl
 unfold tailT
 rcases exp_two a (by omega) with⟨v,hv⟩|⟨e,w,he,hx⟩
 ·have s1:=sem6 hv.2.2
  refine dCall (exC v++[iv 0,iv 0]) rfl ⟨by simp only[openAVs,openAV,openPV,h0,hat];exact s1.1,s1.2⟩ ?_
  refine dSay (sv (⟨#[32,40,10]⟩++a)) (.lit _) (by intro x y;simp only[openAV,openPV,h0,hat];exact((bin_cat (by omega)).2 rfl) x y) ?_
  refine dSay (sv (⟨#[32,40,10]⟩++a++⟨#[10,41,9]⟩)) (.lit _) (by intro x y;simp only[openAV,openPV,h0,hat];exact((bin_cat (by omega)).2 rfl) x y) ?_
  rcases br_x hd (by omega) hv with⟨v',hv',hx⟩|⟨w,hx⟩
  ·have s2:=sem6 hx
   have sm:=ex_same v hv.2.1 v' hv'
   refine dCall (exC v'++[iv 0,iv 0]) rfl ⟨by simp only[openAVs,openAV,openPV,h0,hat];exact s2.1,s2.2⟩ ?_
   refine dR (dSay0 (by intro x y;simp only[openAV,openPV,h0,hat];exact(bin_neq.2 rfl) x y) ?_)
   refine dR (dSay0 (by intro x y;simp only[openAV,openPV,h0,hat];exact(bin_eql.2 rfl) x y) ?_)
   refine dL (dSay0 (by intro x y;simp only[openAV,openPV,h0,hat];exact(bin_eql.2 rfl) x y) ?_)
   refine dL (dCall [] rfl ⟨by simp only[openAVs,openAV,openPV,h0,hat];exact(sem9 (by simp[NSL_cons,NSL_nil]) sm),fun p hp=>by cases hp⟩ ?_)
   exact dRet true rfl
  ·have s2:=sem6 hx
   refine dCall (zX++[iv 111,iv w]) rfl ⟨by simp only[openAVs,openAV,openPV,h0,hat];exact s2.1,s2.2⟩ ?_
   refine dR (dSay0 (by intro x y;simp only[openAV,openPV,h0,hat];exact(bin_neq.2 rfl) x y) ?_)
   refine dL (dSay0 (by intro x y;simp only[openAV,openPV,h0,hat];exact(bin_eql.2 rfl) x y) ?_)
   exact dRet true rfl
 ·have s1:=sem6 hx
  refine dCall (zX++[iv e,iv w]) rfl ⟨by simp only[openAVs,openAV,openPV,h0,hat];exact s1.1,s1.2⟩ ?_
  refine dSay (sv (⟨#[32,40,10]⟩++a)) (.lit _) (by intro x y;simp only[openAV,openPV,h0,hat];exact((bin_cat (by omega)).2 rfl) x y) ?_
  refine dSay (sv (⟨#[32,40,10]⟩++a++⟨#[10,41,9]⟩)) (.lit _) (by intro x y;simp only[openAV,openPV,h0,hat];exact((bin_cat (by omega)).2 rfl) x y) ?_
  obtain⟨c0,c1,c2,c3,c4,c5,c6,c7,c8,c9,c10,c11,c12,h2⟩:∃c0 c1 c2 c3 c4 c5 c6 c7 c8 c9 c10 c11 c12,ev (q6 (sv (⟨#[32,40,10]⟩++a++⟨#[10,41,9]⟩)))=some (0,[c0,c1,c2,c3,c4,c5,c6,c7,c8,c9,c10,c11,c12]):=by
   rcases exp_two (⟨#[32,40,10]⟩++a++⟨#[10,41,9]⟩) (by omega) with⟨v,hv⟩|⟨e,w,he,hx⟩
   ·exact⟨_,_,_,_,_,_,_,_,_,_,_,_,_,hv.2.2⟩
   ·exact⟨_,_,_,_,_,_,_,_,_,_,_,_,_,hx⟩
  have s2:=sem6 h2
  refine dCall [c0,c1,c2,c3,c4,c5,c6,c7,c8,c9,c10,c11,c12] rfl ⟨by simp only[openAVs,openAV,openPV,h0,hat];exact s2.1,s2.2⟩ ?_
  refine dL (dSay0 (by intro x y;simp only[openAV,openPV,h0,hat];exact(bin_neq.2 (by simp[he])) x y) ?_)
  exact dRet true rfl
theorem tail{a:ByteArray}(ha:a.size≤2000)(n:Nat)(l:List PV)(hn:l.length=n)(h:∃r,l=sv a::r):Den PG Tryd.f4 (tailT n) l tO:=by
 subst hn
 have:=tail_go ha l (fun xs=>by obtain⟨r,rfl⟩:=h;rfl)
 rw[List.append_nil] at this
 exact this
theorem app_sf{P:Program}{t:TypeId}{sz by_:Nat}(ht:SlT P t sz by_){R:Nat→PV}{s x:PV}{j:Nat}(es es':List (List PV))(h1:openPV R s=.rows es)(h2:openPV R x=.rows es')(h3:R j=.rows (es++es'))(hsz:∀c∈es',c.length=sz)(hb:es.length+es'.length≤6000000)(hy:by_≤1000):(SF.app t (.pv s) (.pv x) j).ok R P:=by
 obtain⟨⟨e,zc,g1,g2,g3,g4,g5⟩,g6⟩:=ht
 refine⟨e,sz,by_,zc,es,es',g1,g2,g3,g4,g6,g5,?_,?_,?_,hsz,by omega,?_,h3⟩
 ·show rowsN (.pv (openPV R s))=_;rw[h1];rfl
 ·show rowsOf (.pv (openPV R x))=_;rw[h2];rfl
 ·intro hn
  have hn:isNilSlice (.pv (openPV R s))=true:=hn
  rw[h1] at hn
  cases hn
 ·have:(es.length+es'.length)*by_≤6000000*1000:=Nat.mul_le_mul hb hy
  omega
set_option maxHeartbeats 400000 in
theorem law_sem(a b:ByteArray):Sem Tryd.prog 4 [.pv (sv a),.pv (sv b)] [] (.pv (bv true)) []:=by
 have sa:=awake_sem
 have kn:NSL [sv a,sv b]:=by simp[NSL_cons,NSL_nil]
 refine F4 (sv a) (sv b) kn ?_
 unfold T4
 refine zzL (zzCall [] rfl ⟨sa,fun p hp=>by cases hp⟩ ?_)
 refine zzSay (iv a.size) (.lit _) ((len_str uS a).2 rfl) ?_
 simp only[List.cons_append,List.nil_append,List.append_nil]
 by_cases ha:2000<a.size
 ·refine zzL (zzSay0 (bin_gtr.2 (by simp;omega)) ?_)
  exact zzRet true rfl
 refine zzR (zzSay0 (bin_gtr.2 (by simp;omega)) ?_)
 refine zzSay (iv b.size) (.lit _) ((len_str uS b).2 rfl) ?_
 simp only[List.cons_append,List.nil_append,List.append_nil]
 by_cases hb:2000<b.size
 ·refine zzL (zzSay0 (bin_gtr.2 (by simp;omega)) ?_)
  exact zzRet true rfl
 refine zzR (zzSay0 (bin_gtr.2 (by simp;omega)) ?_)
 have z1:=size1 a
 have zb:=sizeB a b
 have c1:(⟨#[10]⟩:ByteArray).size=1:=rfl
 have one:∀b:ByteArray,b.size≤1000000→∃c0 c1 c2 c3 c4 c5,ev (q7 (sv b))=some (0,[c0,c1,c2,c3,iv c4,c5])∧((∃p,PgOk b p∧[c0,c1,c2,c3]=pgC p∧c4=0)∨c4≠0):=fun b hb=>by
  rcases prog_two b hb with⟨p,hp⟩|⟨e,w,he,hx⟩
  ·exact⟨_,_,_,_,_,_,hp.2.2,.inl ⟨p,hp,rfl,rfl⟩⟩
  ·exact⟨_,_,_,_,_,_,hx,.inr he⟩
 obtain⟨p0,p1,p2,p3,p4,p5,hp,kp⟩:=one a (by omega)
 obtain⟨q0,q1,q2,q3,q4,q5,hq,kq⟩:=one b (by omega)
 obtain⟨r0,r1,r2,r3,r4,r5,hr,kr⟩:=one (a++⟨#[10]⟩++b) (by omega)
 have sp:=sem7 (fun x hx=>by rw[List.mem_singleton.1 hx];exact .lit _) hp
 have sq:=sem7 (fun x hx=>by rw[List.mem_singleton.1 hx];exact .lit _) hq
 have sr:=sem7 (fun x hx=>by rw[List.mem_singleton.1 hx];exact .lit _) hr
 refine zzCall [p0,p1,p2,p3,iv p4,p5] rfl sp ?_
 simp only[List.cons_append,List.nil_append,List.append_nil]
 refine zzCall [q0,q1,q2,q3,iv q4,q5] rfl sq ?_
 simp only[List.cons_append,List.nil_append,List.append_nil]
 refine zzSay (sv (a++⟨#[10]⟩)) (.lit _) ((bin_cat (by omega)).2 rfl) ?_
 simp only[List.cons_append,List.nil_append,List.append_nil]
 refine zzSay (sv (a++⟨#[10]⟩++b)) (.lit _) ((bin_cat (by omega)).2 rfl) ?_
 simp only[List.cons_append,List.nil_append,List.append_nil]
 refine zzCall [r0,r1,r2,r3,iv r4,r5] rfl sr ?_
 simp only[List.cons_append,List.nil_append,List.append_nil]
 rcases kp with⟨p,hp',ep,rfl⟩|h4
 ·refine zzL (zzSay0 (bin_eql.2 rfl) ?_)
  rcases kq with⟨q,hq',eq,rfl⟩|h4
  ·refine zzL (zzSay0 (bin_eql.2 rfl) ?_)
   obtain⟨r,hr',he⟩:=both_x (cat_data a b) (by omega) hp' hq'
   have hrr:=hr.symm.trans hr'.2.2
   have sm:=both_same (Pg.okW hr'.2.1) he
   injection hrr with hrr
   injection hrr with _ hrr
   have hrr:[r0,r1,r2,r3,iv r4,r5]=[dts r.datas,cls r.classes,its r.insts,bds r.binds,iv 0,iv 0]:=hrr
   have ep:[p0,p1,p2,p3]=[dts p.datas,cls p.classes,its p.insts,bds p.binds]:=ep
   have eq:[q0,q1,q2,q3]=[dts q.datas,cls q.classes,its q.insts,bds q.binds]:=eq
   injection hrr with t0 hrr
   injection hrr with t1 hrr
   injection hrr with t2 hrr
   injection hrr with t3 hrr
   injection hrr with t4 hrr
   injection ep with u0 ep
   injection ep with u1 ep
   injection ep with u2 ep
   injection ep with u3 ep
   injection eq with v0 eq
   injection eq with v1 eq
   injection eq with v2 eq
   injection eq with v3 eq
   have t4:r4=0:=by injection t4 with t4;injection t4
   subst t0 t1 t2 t3 t4 u0 u1 u2 u3 v0 v1 v2 v3
   obtain⟨l0,l1,l2,l3⟩:=Pg.lens hp'.2.1
   obtain⟨m0,m1,m2,m3⟩:=Pg.lens hq'.2.1
   refine zzSay (dts p.datas) (ns_dts _) (app_sf slDt [] (p.datas.map Dt.cells) rfl rfl rfl (fun c hc=>by obtain⟨x,_,rfl⟩:=List.mem_map.1 hc;rfl) (by simp;omega) (by decide)) ?_
   simp only[List.cons_append,List.nil_append,List.append_nil]
   refine zzSay (dts (p.datas++q.datas)) (ns_dts _) (app_sf slDt (p.datas.map Dt.cells) (q.datas.map Dt.cells) rfl rfl (by show dts (p.datas++q.datas)=_;rw[dts,List.map_append]) (fun c hc=>by obtain⟨x,_,rfl⟩:=List.mem_map.1 hc;rfl) (by simp;omega) (by decide)) ?_
   simp only[List.cons_append,List.nil_append,List.append_nil]
   refine zzSay (cls p.classes) (ns_cls _) (app_sf slCl [] (p.classes.map Cl.cells) rfl rfl rfl (fun c hc=>by obtain⟨x,_,rfl⟩:=List.mem_map.1 hc;rfl) (by simp;omega) (by decide)) ?_
   simp only[List.cons_append,List.nil_append,List.append_nil]
   refine zzSay (cls (p.classes++q.classes)) (ns_cls _) (app_sf slCl (p.classes.map Cl.cells) (q.classes.map Cl.cells) rfl rfl (by show cls (p.classes++q.classes)=_;rw[cls,List.map_append]) (fun c hc=>by obtain⟨x,_,rfl⟩:=List.mem_map.1 hc;rfl) (by simp;omega) (by decide)) ?_
   simp only[List.cons_append,List.nil_append,List.append_nil]
   refine zzSay (its p.insts) (ns_its _) (app_sf slIt [] (p.insts.map It.cells) rfl rfl rfl (fun c hc=>by obtain⟨x,_,rfl⟩:=List.mem_map.1 hc;rfl) (by simp;omega) (by decide)) ?_
   simp only[List.cons_append,List.nil_append,List.append_nil]
   refine zzSay (its (p.insts++q.insts)) (ns_its _) (app_sf slIt (p.insts.map It.cells) (q.insts.map It.cells) rfl rfl (by show its (p.insts++q.insts)=_;rw[its,List.map_append]) (fun c hc=>by obtain⟨x,_,rfl⟩:=List.mem_map.1 hc;rfl) (by simp;omega) (by decide)) ?_
   simp only[List.cons_append,List.nil_append,List.append_nil]
   refine zzSay (bds p.binds) (ns_bds _) (app_sf slBd [] (p.binds.map Bd.cells) rfl rfl rfl (fun c hc=>by obtain⟨x,_,rfl⟩:=List.mem_map.1 hc;rw[Bd.cells_eq];rfl) (by simp;omega) (by decide)) ?_
   simp only[List.cons_append,List.nil_append,List.append_nil]
   refine zzSay (bds (p.binds++q.binds)) (ns_bds _) (app_sf slBd (p.binds.map Bd.cells) (q.binds.map Bd.cells) rfl rfl (by show bds (p.binds++q.binds)=_;rw[bds,List.map_append]) (fun c hc=>by obtain⟨x,_,rfl⟩:=List.mem_map.1 hc;rw[Bd.cells_eq];rfl) (by simp;omega) (by decide)) ?_
   simp only[List.cons_append,List.nil_append,List.append_nil]
   refine zzR (zzSay0 (bin_neq.2 rfl) ?_)
   refine zzL (zzCall [] rfl ⟨sem8 (by simp[NSL_cons,NSL_nil]) sm,fun p hp=>by cases hp⟩ ?_)
   exact tail (by omega) 32 _ rfl ⟨_,rfl⟩
  ·refine zzR (zzSay0 (bin_eql.2 (by simp[h4])) ?_)
   exact tail (by omega) 24 _ rfl ⟨_,rfl⟩
 ·refine zzR (zzSay0 (bin_eql.2 (by simp[h4])) ?_)
  exact tail (by omega) 24 _ rfl ⟨_,rfl⟩
end Go.Proofs.YtfphhabaeggenaaDoor
