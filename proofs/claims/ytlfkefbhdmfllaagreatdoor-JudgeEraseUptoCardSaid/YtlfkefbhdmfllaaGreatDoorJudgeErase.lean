/- PROVED HERE: the statement JudgeErase in its second form (the card): for every typing of bulk at most 1048576 the call returns true, and the typing reads afterwards as it read before. Its conditions are those of the given row and card and no others. -/
import Derived.Test.YtlfkefbhdmfllaaGreatDoorCards
import Derived.Test.YtlfkefbhdmfllaaGreatDoorTie
import Derived.Test.YtlfkefbhdmfllaaGreatDoorJg
import Derived.ProofKit
import Derived.OpenShut
import Derived.ShutString
import Derived.Carry
import Derived.Deep.DeepHandedRow
import Derived.Lib.LaidTab
namespace Go.Proofs.YtlfkefbhdmfllaaGreatDoor.judgeErase
open Go.ChangeShapes Go.WideShapes Go.ChangeAt Go.RowKit
set_option linter.unusedSimpArgs false
set_option linter.unusedVariables false

theorem own : ownKnob Tryz.prog.godebug = none := by kernel_rfl
set_option maxRecDepth 100000 in
theorem laidOut : laidOutB Tryz.prog = true := by kernel_rfl
/-- A cell's value is one cell. -/
theorem cell_one {P : Program} {w : World} {r : Reach} {base : Nat} {t : TypeId} {v : Value} (h : Cell.okWide P w r base t v) : v.oneCell' = true := by
  cases v with
  | agg cs => unfold Cell.okWide Cell.ok at h; split at h <;> first | (split at h <;> simp_all) | simp_all
  | tuple cs => unfold Cell.okWide Cell.ok at h; split at h <;> first | (split at h <;> simp_all) | simp_all
  | _ => rfl
theorem vr_agg {w : World} {ps : List PV} {v : Value} (h : AllR w ps v.cells.toList) (hl : 2 ≤ ps.length) : VR (Kw w) (.agg (ps.map .pv)) v := by
  have hlen := h.1
  cases v with
  | agg cs =>
    have e : (Value.agg cs).cells.toList = cs.toList := rfl
    rw [e] at h
    have := VR.agg (K := Kw w) (ps.map .pv) cs.toList (by simpa using h.1) (fun i hi hi' => by
      simp only [List.getElem_map]
      exact .pv (h.2 i (by simpa using hi) hi'))
    simpa using this
  | _ => simp [Value.cells] at hlen; omega
theorem vr_one {w : World} {p : PV} {v : Value} (h : AllR w [p] v.cells.toList) (ho : v.oneCell' = true) : VR (Kw w) (.pv p) v := by
  have e : v.cells.toList = [v] := by
    cases v with
    | agg cs => cases ho
    | tuple cs => rfl
    | _ => rfl
  rw [e] at h
  exact .pv (h.2 0 (by simp) (by simp))
set_option maxRecDepth 100000 in
/-- WHAT THE RUN GIVES, for every argument and every world. -/
theorem contract (H : Type) (enc : TypeId × Value → H) (W : World) (base : Nat) (args : Array Value) (ds gs : List (DataW H)) (before : List MemPlace)
    (hval : ∀ (j : Nat) t v, Tryz.f3.params[j]? = some t → args[j]? = some v → Value.okWide Tryz.prog W .any base t v)
    (hW : DataW.Whole enc Tryz.prog Tryz.f3.params.toList Rows.judgeEraseSpec.vars false W args.toList ds gs before) (hcond : Rows.uptoSmall H (ds ++ gs) = true) :
    Calls Tryz.prog 3 args W fun e W' => ∃ v, e = .returned v ∧ Rows.judgeEraseSpec.post enc Tryz.prog Tryz.f3 false true false false W args v W' := by
  have hW' := hW
  obtain ⟨p, q, hA0, hV, rfl, hfz, hnd⟩ := hW
  have hA : DataW.TrodAll enc Tryz.prog W 0 (fun _ => true) true Tryz.f3.params.toList args.toList ds p := hA0
  rw [Tryz.params3] at hA hval
  obtain ⟨v0, vs0, d0, ds0, p0, q0, hargs, rfl, rfl, h0, r0⟩ := trodAll_cons hA
  obtain ⟨rfl, rfl, rfl⟩ := trodAll_nil r0
  obtain rfl : args = #[v0] := by cases args; simp_all
  obtain ⟨rfl, rfl⟩ := trodVars_none hV
  clear hA0
  simp only [List.append_nil] at hW' hcond
  have hlt : ∀ x ∈ p0, x.block < W.heap.size := fun x hx => by simpa using hW'.lt x (by simpa using hx)
  have hb : Rows.uptoBulkAll [d0] ≤ 1048576 := of_decide_eq_true hcond
  simp only [Rows.uptoBulkAll] at hb
  obtain ⟨f0, g0⟩ := h0
  obtain ⟨x, hp, hpo⟩ := rd_Tx f0 _ d0 ⟨⟨_, g0⟩, by omega⟩
  have hm := law_sem x (by omega)
  rw [Tx.cells_eq] at hp
  have a0 := vr_agg hp (by simp)
  refine (hm (Kw W).R (Kw W) W [v0] rfl (WR.world W) ⟨rfl, fun i hi hi' => ?_⟩).mono ?_
  · match i, hi with
    | 0, _ => exact a0
  · rintro e W' ⟨K', he, hst⟩
    obtain ⟨u, rfl, hv⟩ := he.ret rfl
    have hb := hst.below
    have hu : u = .bool true := val_eq hv rfl
    subst hu
    exact ⟨_, rfl, _, _, _, [], p0, [], hW', trodAll_cons_mk (shut_bool Tryz.underlying4 _) trodAll_mk0,
      trodAll_mk1 (Below.trod laidOut (by kernel_rfl) (of_decide_eq_true (by kernel_rfl)) ⟨f0, g0⟩ hb (fun x hx => hlt x hx)), rfl, hb.frame _, fun h => by cases h⟩

def firstCells : Array Value := (Go.Pinned.utf8FirstZ.map fun n : Nat => Value.int .u8 (n : Int)).toArray
def acceptCells : Array Value := #[.int .u8 128, .int .u8 191, .int .u8 160, .int .u8 191, .int .u8 128, .int .u8 159, .int .u8 144, .int .u8 191, .int .u8 128, .int .u8 143, .int .u8 0, .int .u8 0, .int .u8 0, .int .u8 0, .int .u8 0, .int .u8 0, .int .u8 0, .int .u8 0, .int .u8 0, .int .u8 0, .int .u8 0, .int .u8 0, .int .u8 0, .int .u8 0, .int .u8 0, .int .u8 0, .int .u8 0, .int .u8 0, .int .u8 0, .int .u8 0, .int .u8 0, .int .u8 0]

/-- A WORLD FOR THE WITNESS: the settled one, the two tables holding what they are listed to hold. -/
def putCells (xs : Array Value) : Obj → Obj
  | .cells _ t frozen => .cells xs t frozen
  | o => o
noncomputable def laidWorld (os : Os) : World :=
  { World.holding Tryz.prog os ⟨#[], #[], []⟩ with heap := ((World.holding Tryz.prog os ⟨#[], #[], []⟩).heap.modify 0 (putCells firstCells)).modify 1 (putCells acceptCells) }
def z0 : Value := .agg #[.int .i64 0, .string ByteArray.empty, .int .i64 0, .int .i64 0, .string ByteArray.empty, .int .i64 0, .slice none 0 0, .slice none 0 0, .slice none 0 0, .slice none 0 0, .slice none 0 0, .int .i64 0]
theorem laid_met (os : Os) : laidMet Tryz.prog Rows.judgeEraseUptoRow.laid ((laidWorld os).forCall (fun _ _ => 0) ⟨#[], #[z0], []⟩).memory :=
  laidMet_of_run' 8 (by kernel_rfl) (by kernel_rfl)
def y0 {H : Type} : DataW H := .agg [.lit (.int .i64 0), .lit (.string []), .lit (.int .i64 0), .agg [.lit (.int .i64 0), .lit (.string []), .lit (.int .i64 0), .nil], .nil, .nil, .nil, .nil, .lit (.int .i64 0)]
theorem reads (os : Os) {H : Type} (enc : TypeId × Value → H) : ∃ places, DataW.whole enc Tryz.prog ((laidWorld os).forCall (fun _ _ => 0) ⟨#[], #[z0], []⟩).memory Tryz.f3.params.toList Rows.judgeEraseSpec.vars false #[z0].toList 8 = some ([y0], [], places) :=
  ⟨[], by kernel_rfl⟩

set_option maxRecDepth 100000 in
theorem lifted (os : Os) (started : os.Started) (H : Type) (enc : TypeId × Value → H) (F : Stop.Interp) :
    ReturnsInHanded {} Tryz.checked os 3 .any ((Rows.OpenSpec.upto Rows.judgeEraseSpec).preRow enc Tryz.prog Tryz.f3 Rows.judgeEraseUptoRow.domain false Rows.judgeEraseUptoRow.laid) (((Rows.OpenSpec.upto Rows.judgeEraseSpec).at F).post enc Tryz.prog Tryz.f3 false true false false) := by
  obtain ⟨places, hx⟩ := reads os enc
  refine returnsInHanded_of_row (C := Tryz.checked) (s := Rows.OpenSpec.upto Rows.judgeEraseSpec) own started (by kernel_rfl) Tryz.func3
    (witness_row_at (enc := enc) (C := Tryz.checked) false (laidWorld os) #[z0] rfl (by kernel_rfl) (by kernel_rfl) (by kernel_rfl)
      (OpenSpec.preRow_of_cond 8 hx (by kernel_rfl) (fun k hk => by cases hk; kernel_rfl) (by kernel_rfl) (laid_met os))) ?_
  intro W base args ds gs before hval hW _ hcond _ _ _ _
  exact contract H enc W base args ds gs before hval hW (hcond _ rfl)

theorem said : Rows.JudgeEraseUptoSaid :=
  OpenClaim.holds_of_cond 3 Tryz.f3 rfl rfl rfl rfl rfl rfl rfl ⟨rfl, rfl, rfl, rfl, rfl⟩ rfl rfl rfl rfl rfl (by kernel_rfl) Tryz.func3 (by kernel_rfl)
    (of_decide_eq_true (by kernel_rfl)) (by unfold Func.isWrapper; first | (rw [if_pos (by decide +kernel)]; kernel_rfl) | (rw [if_neg (by decide +kernel)]; exact ⟨rfl, rfl⟩))
    (fun os started H enc _ F => by rw [OpenClaim.pre_eq_preRow]; exact lifted os started H enc F)

/-- No parameter wants a stand-in; the program's own looks are off. -/
theorem plain (f : FuncId) (fn : Func) (hf : Tryz.pinned.checked.prog.funcNamed "cognate/cognatelaw15.JudgeErase" = some f) (hfn : Tryz.pinned.checked.prog.funcs[f]? = some fn) :
    false = Tryz.pinned.checked.prog.looks [] ∧ ∀ (j : Nat) t, fn.params[j]? = some t → Tryz.pinned.checked.prog.wantsStandIn t = false := by
  obtain rfl : f = 3 := Option.some.inj ((show Tryz.prog.funcNamed "cognate/cognatelaw15.JudgeErase" = some 3 by kernel_rfl).symm.trans hf) |>.symm
  obtain rfl : fn = Tryz.f3 := (Option.some.inj (Tryz.func3.symm.trans hfn)).symm
  refine ⟨by kernel_rfl, fun j t ht => ?_⟩
  rw [Tryz.params3] at ht
  obtain rfl : t = 29 := by simpa using Array.mem_of_getElem? ht
  exact (show Tryz.prog.wantsStandIn 29 = false by kernel_rfl)

/-- THE CARD. -/
theorem card : Rows.JudgeEraseUptoCardSaid :=
  Claim7.holds_tied_plain_at .later [] _ _ _ _ said (fun _ h => by cases h) (by kernel_rfl) (fun _ h => by cases h) judgeEraseUpto_row_tie rfl ⟨rfl, rfl⟩ (by kernel_rfl) rfl plain (by kernel_rfl)

#print axioms card
end Go.Proofs.YtlfkefbhdmfllaaGreatDoor.judgeErase
