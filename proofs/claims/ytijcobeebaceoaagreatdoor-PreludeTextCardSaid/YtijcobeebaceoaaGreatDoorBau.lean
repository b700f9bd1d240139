import Derived.Test.YtijcobeebaceoaaGreatDoorBar
import Derived.Test.YtijcobeebaceoaaGreatDoorMzR
set_option linter.unusedVariables false
set_option linter.unusedSimpArgs false
set_option linter.unusedSectionVars false
namespace Go.Proofs.YtijcobeebaceoaaGreatDoor
open Go.RowKit
theorem agm{q:Q}{r:Rs}{ent:ow}{sh:Shape}{args:List AV}{h h':List af}{v:AV}(he:EE q.k=ent)(hl:ent.lp=none)(hs:Cm SS EE q.k r.1=sh)(ha:aN (nm q.xs) ent.args=args)(hh:cB (nm q.xs) ent.h=h)(hv:ah (nm r.2) sh.v=v)(hh':cB (nm r.2) sh.h=h')
  (hn:q.xs.length=ent.n) (hr:ent.rin=[]) (hns:kM q.xs) (h0:ev q=some r):Sem Tryz.prog ent.f args h v h'∧kM r.2:=by
 obtain⟨h1,h2⟩:=aaK h0 ⟨by rw[he];exact hn,hns,by rw[he,hr];intro i hi;cases hi⟩;refine⟨?_,h2.ns⟩;unfold vk at h1;rw[he,hl] at h1;simp only at h1;rw[hs,ha,hh,hv,hh'] at h1;exact h1
theorem Zl:Sem Tryz.prog 5 [] [] (.pv (bv true)) []:=
 (agm (q:=q5) (r:=(0,[bv true])) (ent:=eF 5 [] [] 0 204) (sh:={v:=.pv (.sym 0),m:=1}) (by kernel_rfl) rfl (by kernel_rfl) rfl rfl rfl rfl rfl rfl (by simp) adq).1
end Go.Proofs.YtijcobeebaceoaaGreatDoor
