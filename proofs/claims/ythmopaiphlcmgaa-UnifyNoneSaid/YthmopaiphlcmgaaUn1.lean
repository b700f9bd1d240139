/- The runs of the statement UnifyNone. -/
import Derived.Test.YthmopaiphlcmgaaTabs
namespace Go.Proofs.Ythmopaiphlcmgaa
open Go.RowKit

def sp0 : Nat → List AV → List AObj → Option (AV × List AObj) := fun _ _ _ => none
theorem sp0_ok (R : Nat → PV) : CallsOk R Try.prog sp0 := fun _ _ _ _ _ h => by cases h
/-- A type of which nothing is known. -/
def anyT : AV := .agg [.pv .any, .pv .any, .pv .any, .pv .any]
set_option maxRecDepth 100000 in
theorem run4 : evalF Try.prog okT tabT sp0 100000 30 4 [] [] = some (.pv (.lit (.bool true)), []) := by kernel_rfl
def sp1 : Nat → List AV → List AObj → Option (AV × List AObj)
  | 4, [], [] => some (.pv (.lit (.bool true)), [])
  | _, _, _ => none
theorem sp1_ok (R : Nat → PV) : CallsOk R Try.prog sp1 := by
  intro f args h v h' he
  unfold sp1 at he
  split at he
  · cases he
    exact evalF_sound (sp0_ok R) okT_ok tabT_ok (fun _ _ _ _ => rfl) mixed 30 _ _ _ _ _ run4
  · cases he
set_option maxRecDepth 100000 in
theorem run3 : evalF Try.prog okT tabT sp1 100000 30 3 [anyT, anyT] [] = some (.pv (.lit (.bool true)), []) := by kernel_rfl
/-- WHAT THE LAW ANSWERS, for any two types in any world. -/
theorem none_any {x y : Value} (hx : VR (K0 fun _ => .any) anyT x) (hy : VR (K0 fun _ => .any) anyT y) (w : World) : Calls Try.prog 3 #[x, y] w fun e w' => e = .returned (.bool true) ∧ Below w.heap.size w w' := by
  have h := evalF_sound (sp1_ok fun _ => .any) okT_ok tabT_ok (fun _ _ _ _ => rfl) mixed 30 _ _ _ _ _ run3
  refine (h (K0 fun _ => .any) w [x, y] rfl (WR.none _ w) ⟨rfl, fun i hi hi' => ?_⟩).mono ?_
  · match i, hi with
    | 0, _ => exact hx
    | 1, _ => exact hy
  · rintro e w' ⟨u, K', rfl, hv, hst⟩
    exact ⟨by rw [val_eq hv rfl], hst.below⟩
end Go.Proofs.Ythmopaiphlcmgaa
