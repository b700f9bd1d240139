/- PROVED HERE: the statement DeclsAsk: for every program, name and type the call returns true, and all three read afterwards as they read before. Its conditions are those of the given row and no others. -/
import Derived.Test.YtjpjcjnacnlhdaaGreatRows
import Derived.Test.YtjpjcjnacnlhdaaGreatDt4
import Derived.Test.YtjpjcjnacnlhdaaGreatDx5
import Derived.ProofKit
import Derived.OpenShut
import Derived.ShutString
import Derived.Carry
import Derived.Deep.DeepHandedRow
import Derived.Lib.LaidTab
namespace Go.Proofs.YtjpjcjnacnlhdaaGreat.declsAsk
open Go.ChangeShapes Go.WideShapes Go.ChangeAt Go.RowKit
set_option linter.unusedSimpArgs false
set_option linter.unusedVariables false

theorem own : ownKnob Tryz.prog.godebug = none := by kernel_rfl
set_option maxRecDepth 100000 in
theorem laidOut : laidOutB Tryz.prog = true := by kernel_rfl
/-- A cell's value is one cell. -/
theorem cell_one {P : Program} {w : World} {r : Reach} {base : Nat} {t : TypeId} {v : Value} (h : Cell.okWide P w r base t v) : v.oneCell' = true := by
  cases v with
  | agg cs => unfold Cell.okWide Cell.ok at h; split at h <;> first | (split at h <;> simp_all) | simp_all
  | tuple cs => unfold Cell.okWide Cell.ok at h; split at h <;> first | (split at h <;> simp_all) | simp_all
  | _ => rfl
theorem vr_agg {w : World} {ps : List PV} {v : Value} (h : AllR w ps v.cells.toList) (hl : 2 ≤ ps.length) : VR (Kw w) (.agg (ps.map .pv)) v := by
  have hlen := h.1
  cases v with
  | agg cs =>
    have e : (Value.agg cs).cells.toList = cs.toList := rfl
    rw [e] at h
    have := VR.agg (K := Kw w) (ps.map .pv) cs.toList (by simpa using h.1) (fun i hi hi' => by
      simp only [List.getElem_map]
      exact .pv (h.2 i (by simpa using hi) hi'))
    simpa using this
  | _ => simp [Value.cells] at hlen; omega
theorem vr_one {w : World} {p : PV} {v : Value} (h : AllR w [p] v.cells.toList) (ho : v.oneCell' = true) : VR (Kw w) (.pv p) v := by
  have e : v.cells.toList = [v] := by
    cases v with
    | agg cs => cases ho
    | tuple cs => rfl
    | _ => rfl
  rw [e] at h
  exact .pv (h.2 0 (by simp) (by simp))
set_option maxRecDepth 100000 in
/-- WHAT THE RUN GIVES, for every argument and every world. -/
theorem contract (H : Type) (enc : TypeId × Value → H) (W : World) (base : Nat) (args : Array Value) (ds gs : List (DataW H)) (before : List MemPlace)
    (hval : ∀ (j : Nat) t v, Tryz.f5.params[j]? = some t → args[j]? = some v → Value.okWide Tryz.prog W .any base t v)
    (hW : DataW.Whole enc Tryz.prog Tryz.f5.params.toList Rows.declsAskSpec.vars false W args.toList ds gs before) :
    Calls Tryz.prog 5 args W fun e W' => ∃ v, e = .returned v ∧ Rows.declsAskSpec.post enc Tryz.prog Tryz.f5 false true false false W args v W' := by
  have hW' := hW
  obtain ⟨p, q, hA0, hV, rfl, hfz, hnd⟩ := hW
  have hA : DataW.TrodAll enc Tryz.prog W 0 (fun _ => true) true Tryz.f5.params.toList args.toList ds p := hA0
  rw [Tryz.params5] at hA hval
  obtain ⟨v0, vs0, d0, ds0, p0, q0, hargs, rfl, rfl, h0, r0⟩ := trodAll_cons hA
  obtain ⟨v1, vs1, d1, ds1, p1, q1, rfl, rfl, rfl, h1, r1⟩ := trodAll_cons r0
  obtain ⟨v2, vs2, d2, ds2, p2, q2, rfl, rfl, rfl, h2, r2⟩ := trodAll_cons r1
  obtain ⟨rfl, rfl, rfl⟩ := trodAll_nil r2
  obtain rfl : args = #[v0, v1, v2] := by cases args; simp_all
  obtain ⟨rfl, rfl⟩ := trodVars_none hV
  clear hA0
  simp only [List.append_nil] at hW'
  have hlt : ∀ x ∈ p0 ++ (p1 ++ p2), x.block < W.heap.size := fun x hx => by simpa using hW'.lt x (by simpa using hx)
  obtain ⟨f0, g0⟩ := h0
  obtain ⟨f1, g1⟩ := h1
  obtain ⟨f2, g2⟩ := h2
  obtain ⟨pg, hp, hpo⟩ := rd_pg f0 _ d0 ⟨_, g0⟩
  obtain ⟨name, hs⟩ := rd_str ⟨_, g1⟩
  obtain ⟨t, ht, hto⟩ := rd_ty f2 _ d2 ⟨_, g2⟩
  have hone : v1.oneCell' = true := by
    have := hval 1 9 v1 (by simp) (by simp)
    simp only [Value.okWide, u_str] at this
    exact cell_one this
  have hm := ask_ok pg hpo name t hto awake_sem
  have a0 := vr_agg hp (by simp [Pg.cells])
  have a1 := vr_one hs hone
  have a2 := vr_agg ht (by rw [Ty.cells_len]; decide)
  have e2 : AV.agg (t.cells.map .pv) = tyA t := by rw [Ty.cells_eq]; rfl
  rw [e2] at a2
  refine (hm (Kw W).R (Kw W) W [v0, v1, v2] rfl (WR.world W) ⟨rfl, fun i hi hi' => ?_⟩).mono ?_
  · match i, hi with
    | 0, _ => exact a0
    | 1, _ => exact a1
    | 2, _ => exact a2
  · rintro e W' ⟨K', he, hst⟩
    obtain ⟨u, rfl, hv⟩ := he.ret rfl
    have hb := hst.below
    have hu : u = .bool true := val_eq hv rfl
    subst hu
    exact ⟨_, rfl, _, _, _, [], p0 ++ (p1 ++ p2), [], hW', trodAll_cons_mk (shut_bool Tryz.underlying4 _) trodAll_mk0,
      trodAll_mk3 (Below.trod laidOut (by kernel_rfl) (of_decide_eq_true (by kernel_rfl)) ⟨f0, g0⟩ hb (fun x hx => hlt x (List.mem_append_left _ hx))) (Below.trod laidOut (by kernel_rfl) (of_decide_eq_true (by kernel_rfl)) ⟨f1, g1⟩ hb (fun x hx => hlt x (List.mem_append_right _ (List.mem_append_left _ hx)))) (Below.trod laidOut (by kernel_rfl) (of_decide_eq_true (by kernel_rfl)) ⟨f2, g2⟩ hb (fun x hx => hlt x (List.mem_append_right _ (List.mem_append_right _ hx)))), rfl, hb.frame _, fun h => by cases h⟩

/-- A WORLD FOR THE WITNESS: the settled one. -/
noncomputable def someWorld (os : Os) : World := World.holding Tryz.prog os ⟨#[], #[], []⟩
def z0 : Value := .agg #[.slice none 0 0, .slice none 0 0, .slice none 0 0, .slice none 0 0]
def z1 : Value := .string ByteArray.empty
def z2 : Value := .agg #[.int .i64 0, .string ByteArray.empty, .int .i64 0, .slice none 0 0]
theorem laid_met (os : Os) : laidMet Tryz.prog Rows.declsAskRow.laid ((someWorld os).forCall (fun _ _ => 0) ⟨#[], #[z0, z1, z2], []⟩).memory :=
  laidMet_of_run' 8 (by kernel_rfl) (by kernel_rfl)
def y0 {H : Type} : DataW H := .agg [.nil, .nil, .nil, .nil]
def y1 {H : Type} : DataW H := .lit (.string [])
def y2 {H : Type} : DataW H := .agg [.lit (.int .i64 0), .lit (.string []), .lit (.int .i64 0), .nil]
theorem reads (os : Os) {H : Type} (enc : TypeId × Value → H) : ∃ places, DataW.whole enc Tryz.prog ((someWorld os).forCall (fun _ _ => 0) ⟨#[], #[z0, z1, z2], []⟩).memory Tryz.f5.params.toList Rows.declsAskSpec.vars false #[z0, z1, z2].toList 8 = some ([y0, y1, y2], [], places) :=
  ⟨[], by kernel_rfl⟩

set_option maxRecDepth 100000 in
theorem lifted (os : Os) (started : os.Started) (H : Type) (enc : TypeId × Value → H) (F : Stop.Interp) :
    ReturnsInHanded {} Tryz.checked os 5 .any ((OpenSpec.ofChange Rows.declsAskSpec).preRow enc Tryz.prog Tryz.f5 Rows.declsAskRow.domain false Rows.declsAskRow.laid) (((OpenSpec.ofChange Rows.declsAskSpec).at F).post enc Tryz.prog Tryz.f5 false true false false) := by
  obtain ⟨places, hx⟩ := reads os enc
  refine returnsInHanded_of_row (C := Tryz.checked) (s := OpenSpec.ofChange Rows.declsAskSpec) own started (by kernel_rfl) Tryz.func5
    (witness_row_at (enc := enc) (C := Tryz.checked) false (someWorld os) #[z0, z1, z2] rfl (by kernel_rfl) (by kernel_rfl) (by kernel_rfl)
      (OpenSpec.preRow_of_cond 8 hx (by kernel_rfl) (fun k hk => by cases hk) (by kernel_rfl) (laid_met os))) ?_
  intro W base args ds gs before hval hW _ _ _ _ _ _
  exact contract H enc W base args ds gs before hval hW

theorem said : Rows.DeclsAskSaid :=
  OpenClaim.holds_of_cond 5 Tryz.f5 rfl rfl rfl rfl rfl rfl rfl ⟨rfl, rfl, rfl, rfl, rfl⟩ rfl rfl rfl rfl rfl (by kernel_rfl) Tryz.func5 (by kernel_rfl)
    (of_decide_eq_true (by kernel_rfl)) (by unfold Func.isWrapper; first | (rw [if_pos (by decide +kernel)]; kernel_rfl) | (rw [if_neg (by decide +kernel)]; exact ⟨rfl, rfl⟩))
    (fun os started H enc _ F => by rw [OpenClaim.pre_eq_preRow]; exact lifted os started H enc F)

#print axioms said
end Go.Proofs.YtjpjcjnacnlhdaaGreat.declsAsk
