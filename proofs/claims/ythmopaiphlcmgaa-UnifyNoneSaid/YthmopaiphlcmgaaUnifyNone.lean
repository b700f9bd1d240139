/- PROVED HERE: the statement UnifyNone: for every two types the call returns true and both read afterwards as they read before. Its conditions are those of the given row and no others. -/
import Derived.Test.YthmopaiphlcmgaaRows
import Derived.Test.YthmopaiphlcmgaaUn1
import Derived.ProofKit
import Derived.OpenShut
import Derived.ShutString
import Derived.Carry
import Derived.Deep.DeepHandedRow
import Derived.Lib.LaidTab
namespace Go.Proofs.Ythmopaiphlcmgaa.unifyNone
open Go.ChangeShapes Go.WideShapes Go.ChangeAt Go.RowKit

theorem own : ownKnob Try.prog.godebug = none := by kernel_rfl
set_option maxRecDepth 100000 in
theorem laidOut : laidOutB Try.prog = true := by kernel_rfl

/-- A cell's value is one cell. -/
theorem cell_one {P : Program} {w : World} {r : Reach} {base : Nat} {t : TypeId} {v : Value} (h : Cell.okWide P w r base t v) : v.oneCell' = true := by
  cases v with
  | agg cs => unfold Cell.okWide Cell.ok at h; split at h <;> first | (split at h <;> simp_all) | simp_all
  | tuple cs => unfold Cell.okWide Cell.ok at h; split at h <;> first | (split at h <;> simp_all) | simp_all
  | _ => rfl
theorem cells24 : Try.prog.cellsOf 24 = 4 := by kernel_rfl
theorem any_type {W : World} {base : Nat} {v : Value} (h : Value.okWide Try.prog W .any base 24 v) : VR (K0 fun _ => .any) anyT v := by
  have hu := Try.underlying24
  simp only [Value.okWide, hu] at h
  obtain ⟨cs, rfl, hs, ts, _, _, hc⟩ := h
  rw [cells24] at hs
  have hone : ∀ i (hi : i < cs.size), cs[i].oneCell' = true := fun i hi => by
    obtain ⟨u, _, hok⟩ := hc i cs[i] (Array.getElem?_eq_getElem hi)
    exact cell_one hok
  have := VR.agg (K := K0 fun _ => .any) [.pv .any, .pv .any, .pv .any, .pv .any] cs.toList (by simp [hs]) (fun i hi hi' => by
    have h1 : ([.pv .any, .pv .any, .pv .any, .pv .any] : List AV)[i] = .pv .any := by
      match i, hi with
      | 0, _ => rfl
      | 1, _ => rfl
      | 2, _ => rfl
      | 3, _ => rfl
    rw [h1]
    exact .pv (.any _ (by simpa using hone i (by simpa using hi'))))
  simpa [anyT] using this

/-- WHAT THE RUN GIVES, for every argument and every world. -/
theorem contract (H : Type) (enc : TypeId × Value → H) (W : World) (base : Nat) (args : Array Value) (ds gs : List (DataW H)) (before : List MemPlace)
    (hval : ∀ (j : Nat) t v, Try.f3.params[j]? = some t → args[j]? = some v → Value.okWide Try.prog W .any base t v)
    (hW : DataW.Whole enc Try.prog Try.f3.params.toList Rows.unifyNoneSpec.vars false W args.toList ds gs before) :
    Calls Try.prog 3 args W fun e W' => ∃ v, e = .returned v ∧ Rows.unifyNoneSpec.post enc Try.prog Try.f3 false true false false W args v W' := by
  have hW' := hW
  obtain ⟨p, q, hA0, hV, rfl, hfz, hnd⟩ := hW
  have hA : DataW.TrodAll enc Try.prog W 0 (fun _ => true) true Try.f3.params.toList args.toList ds p := hA0
  rw [Try.params3] at hA hval
  obtain ⟨v0, vs0, d0, ds0, p0, q0, hargs, rfl, rfl, h0, r0⟩ := trodAll_cons hA
  obtain ⟨v1, vs1, d1, ds1, p1, q1, rfl, rfl, rfl, h1, r1⟩ := trodAll_cons r0
  obtain ⟨rfl, rfl, rfl⟩ := trodAll_nil r1
  obtain rfl : args = #[v0, v1] := by cases args; simp_all
  obtain ⟨rfl, rfl⟩ := trodVars_none hV
  clear hA0
  simp only [List.append_nil] at hW'
  have hlt : ∀ x ∈ p0 ++ p1, x.block < W.heap.size := fun x hx => by simpa using hW'.lt x hx
  refine (none_any (any_type (hval 0 24 v0 rfl rfl)) (any_type (hval 1 24 v1 rfl rfl)) W).mono fun e W' ⟨he, hb⟩ => ?_
  subst he
  exact ⟨_, rfl, _, _, _, [], p0 ++ p1, [], hW', trodAll_cons_mk (shut_bool Try.underlying4 _) trodAll_mk0,
    trodAll_mk2 (Below.trod laidOut (by kernel_rfl) (of_decide_eq_true (by kernel_rfl)) h0 hb (fun x hx => hlt x (List.mem_append_left _ hx))) (Below.trod laidOut (by kernel_rfl) (of_decide_eq_true (by kernel_rfl)) h1 hb (fun x hx => hlt x (List.mem_append_right _ hx))), rfl, hb.frame _, fun h => by cases h⟩

/-- A WORLD FOR THE WITNESS: the settled one. -/
noncomputable def someWorld (os : Os) : World := World.holding Try.prog os ⟨#[], #[], []⟩
def zeroT : Value := .agg #[.int .i64 0, .string ByteArray.empty, .int .i64 0, .slice none 0 0]
theorem laid_met (os : Os) : laidMet Try.prog Rows.unifyNoneRow.laid ((someWorld os).forCall (fun _ _ => 0) ⟨#[], #[zeroT, zeroT], []⟩).memory :=
  laidMet_of_run' 8 (by kernel_rfl) (by kernel_rfl)
def zeroD {H : Type} : DataW H := .agg [.lit (.int .i64 0), .lit (.string []), .lit (.int .i64 0), .nil]
theorem reads (os : Os) {H : Type} (enc : TypeId × Value → H) : ∃ places, DataW.whole enc Try.prog ((someWorld os).forCall (fun _ _ => 0) ⟨#[], #[zeroT, zeroT], []⟩).memory Try.f3.params.toList Rows.unifyNoneSpec.vars false #[zeroT, zeroT].toList 8 = some ([zeroD, zeroD], [], places) :=
  ⟨[], by kernel_rfl⟩

set_option maxRecDepth 100000 in
theorem lifted (os : Os) (started : os.Started) (H : Type) (enc : TypeId × Value → H) (F : Stop.Interp) :
    ReturnsInHanded {} Try.checked os 3 .any ((OpenSpec.ofChange Rows.unifyNoneSpec).preRow enc Try.prog Try.f3 Rows.unifyNoneRow.domain false Rows.unifyNoneRow.laid) (((OpenSpec.ofChange Rows.unifyNoneSpec).at F).post enc Try.prog Try.f3 false true false false) := by
  obtain ⟨places, hx⟩ := reads os enc
  refine returnsInHanded_of_row (C := Try.checked) (s := OpenSpec.ofChange Rows.unifyNoneSpec) own started (by kernel_rfl) Try.func3
    (witness_row_at (enc := enc) (C := Try.checked) false (someWorld os) #[zeroT, zeroT] rfl (by kernel_rfl) (by kernel_rfl) (by kernel_rfl)
      (OpenSpec.preRow_of_cond 8 hx (by kernel_rfl) (fun k hk => by cases hk) (by kernel_rfl) (laid_met os))) ?_
  intro W base args ds gs before hval hW _ _ _ _ _ _
  exact contract H enc W base args ds gs before hval hW

theorem said : Rows.UnifyNoneSaid :=
  OpenClaim.holds_of_cond 3 Try.f3 rfl rfl rfl rfl rfl rfl rfl ⟨rfl, rfl, rfl, rfl, rfl⟩ rfl rfl rfl rfl rfl (by kernel_rfl) Try.func3 (by kernel_rfl)
    (of_decide_eq_true (by kernel_rfl)) (by unfold Func.isWrapper; first | (rw [if_pos (by decide +kernel)]; kernel_rfl) | (rw [if_neg (by decide +kernel)]; exact ⟨rfl, rfl⟩))
    (fun os started H enc _ F => by rw [OpenClaim.pre_eq_preRow]; exact lifted os started H enc F)

#print axioms said
end Go.Proofs.Ythmopaiphlcmgaa.unifyNone
