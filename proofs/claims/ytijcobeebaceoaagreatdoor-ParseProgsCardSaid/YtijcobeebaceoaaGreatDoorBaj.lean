import Derived.Test.YtijcobeebaceoaaGreatDoorJt0
set_option linter.all false
namespace Go.Proofs.YtijcobeebaceoaaGreatDoor
noncomputable def ah3(f:Nat):Bool:=callable Tryz.prog f
theorem R7:∀f,ah3 f=true→callable Tryz.prog f=true:=fun _ h=>h
set_option maxRecDepth 100000
abbrev rW(a b:Nat):Prop:=(List.range b).all (fun i=>Ol Tryz.prog VZ (a+i))=true
theorem rV{a b:Nat}(h:rW 0 a)(h2:rW a b):rW 0 (a+b):=by
 unfold rW at *;simp only[Nat.zero_add] at *;rw[List.range_add,List.all_append,h,List.all_map];exact h2
theorem ajA:rW 0 32:=by unfold rW;kernel_rfl
theorem agN:rW 32 32:=by unfold rW;kernel_rfl
theorem agM:rW 64 32:=by unfold rW;kernel_rfl
theorem agL:rW 96 32:=by unfold rW;kernel_rfl
theorem abO:rW 128 32:=by unfold rW;kernel_rfl
theorem abN:rW 160 33:=by unfold rW;kernel_rfl
theorem O7:MX Tryz.prog VZ:=Uu (n:=193) (by kernel_rfl) (by simpa[rW] using(rV (rV (rV (rV (rV ajA agN) agM) agL) abO) abN))
end Go.Proofs.YtijcobeebaceoaaGreatDoor
