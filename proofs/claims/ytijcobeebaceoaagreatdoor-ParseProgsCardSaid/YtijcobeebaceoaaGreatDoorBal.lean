/- Joined texts. -/
import Derived.Test.YtijcobeebaceoaaGreatDoorBai
import Derived.Test.YtijcobeebaceoaaGreatDoorMzR
set_option linter.all false
namespace Go.Proofs.YtijcobeebaceoaaGreatDoor
open Go.RowKit
theorem agf{q:Q}{r:Rs}{ent:og}{sh:Shape}{args:List AV}{h h':List af}{v:AV}(he:EE q.k=ent)(hl:ent.lp=none)(hs:BR SS EE q.k r.1=sh)(ha:aG (nm q.xs) ent.args=args)(hh:bS (nm q.xs) ent.h=h)(hv:ah (nm r.2) sh.v=v)(hh':bS (nm r.2) sh.h=h')
  (hn:q.xs.length=ent.n) (hr:ent.rin=[]) (hns:kH q.xs) (h0:ev q=some r):Sem Tryz.prog ent.f args h v h'∧kH r.2:=by
 obtain⟨h1,h2⟩:=aax h0 ⟨by rw[he];exact hn,hns,by rw[he,hr];intro i hi;cases hi⟩;refine⟨?_,h2.ns⟩;unfold uN at h1;rw[he,hl] at h1;simp only at h1;rw[hs,ha,hh,hv,hh'] at h1;exact h1
theorem alB:Sem Tryz.prog 5 [] [] (.pv (bv true)) []:=
 (agf (q:=q5) (r:=(0,[bv true])) (ent:=eF 5 [] [] 0 204) (sh:={v:=.pv (.sym 0),m:=1 }) (by kernel_rfl) rfl (by kernel_rfl) rfl rfl rfl rfl rfl rfl (by simp) adf).1
theorem Y8(b:ByteArray):Sem Tryz.prog 4 [.pv (sv b)] [] (.pv (bv true)) []:=
 (agf (q:=q4 (sv b)) (r:=(0,[bv true])) (ent:=eF 4 [.pv (.sym 0)] [] 1 203) (sh:={v:=.pv (.sym 0),m:=1 }) (by kernel_rfl) rfl (by kernel_rfl) rfl rfl rfl rfl rfl rfl (by simp) (adg b)).1
end Go.Proofs.YtijcobeebaceoaaGreatDoor
