import Derived.Test.YtijcobeebaceoaaGreatDoorJt0
set_option linter.unusedVariables false
set_option linter.unusedSimpArgs false
set_option linter.unusedSectionVars false
namespace Go.Proofs.YtijcobeebaceoaaGreatDoor
noncomputable def ah4(f:Nat):Bool:=callable Tryz.prog f
theorem R8:∀f,ah4 f=true→callable Tryz.prog f=true:=fun _ h=>h
set_option maxRecDepth 100000
abbrev sJ(a b:Nat):Prop:=(List.range b).all (fun i=>OI Tryz.prog V4 (a+i))=true
theorem sI{a b:Nat}(h:sJ 0 a)(h2:sJ a b):sJ 0 (a+b):=by
 unfold sJ at *;simp only[Nat.zero_add] at *;rw[List.range_add,List.all_append,h,List.all_map];exact h2
theorem ajx:sJ 0 32:=by unfold sJ;kernel_rfl
theorem agS:sJ 32 32:=by unfold sJ;kernel_rfl
theorem agR:sJ 64 32:=by unfold sJ;kernel_rfl
theorem agQ:sJ 96 32:=by unfold sJ;kernel_rfl
theorem ab1:sJ 128 32:=by unfold sJ;kernel_rfl
theorem ab0:sJ 160 33:=by unfold sJ;kernel_rfl
theorem Px:Nq Tryz.prog V4:=Uq (n:=193) (by kernel_rfl) (by simpa[sJ] using(sI (sI (sI (sI (sI ajx agS) agR) agQ) ab1) ab0))
end Go.Proofs.YtijcobeebaceoaaGreatDoor
