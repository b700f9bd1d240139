import Derived.Test.YtfphhabaeggenaaGreatDoorBai
import Derived.Test.YtfphhabaeggenaaGreatDoorMzR
set_option linter.all false
namespace Go.Proofs.YtfphhabaeggenaaGreatDoor
open Go.RowKit
set_option linter.all false
theorem asw{q:Q}{r:Rs}{ent:gJ}{sh:Shape}{args:List AV}{h h':List ah}{v:AV}(he:EE q.k=ent)(hl:ent.lp=none)(hs:BB SS EE q.k r.1=sh)(ha:ay (nm q.xs) ent.args=args)(hh:bP (nm q.xs) ent.h=h)(hv:af (nm r.2) sh.v=v)(hh':bP (nm r.2) sh.h=h')
  (hn:q.xs.length=ent.n) (hr:ent.rin=[]) (hns:jh q.xs) (h0:ev q=some r):Sem Tryz.prog ent.f args h v h'∧jh r.2:=by
 obtain⟨h1,h2⟩:=aaG h0 ⟨by rw[he];exact hn,hns,by rw[he,hr];intro i hi;cases hi⟩;refine⟨?_,h2.ns⟩;unfold tH at h1;rw[he,hl] at h1;simp only at h1;rw[hs,ha,hh,hv,hh'] at h1;exact h1
theorem adw(b:ByteArray):Sem Tryz.prog 3 [.pv (sv b)] [] (.pv (bv true)) []:=
 (asw (q:=q3 (sv b)) (r:=(0,[bv true])) (ent:=eF 3 [o0] [] 1 169) (sh:={v:=.pv (.sym 0),m:=1 }) (by kernel_rfl) rfl (by kernel_rfl) rfl rfl rfl rfl rfl rfl (by simp[bE,bT]) (C.law_ev b)).1
end Go.Proofs.YtfphhabaeggenaaGreatDoor
