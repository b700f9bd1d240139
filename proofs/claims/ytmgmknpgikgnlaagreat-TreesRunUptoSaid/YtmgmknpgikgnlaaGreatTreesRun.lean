/- PROVED HERE: the statement TreesRun in its second form: for every decision, value and pattern of bulk at most 1048576 the call returns true, and all three read afterwards as they read before. Its conditions are those of the given row and no others. -/
import Derived.Test.YtmgmknpgikgnlaaGreatTb5
import Derived.ProofKit
import Derived.OpenShut
import Derived.ShutString
import Derived.Carry
import Derived.Deep.DeepHandedRow
import Derived.Lib.LaidTab
namespace Go.Proofs.YtmgmknpgikgnlaaGreat.treesRun
open Go.ChangeShapes Go.WideShapes Go.ChangeAt Go.RowKit

theorem own : ownKnob Tryz.prog.godebug = none := by kernel_rfl
set_option maxRecDepth 100000 in
theorem laidOut : laidOutB Tryz.prog = true := by kernel_rfl
theorem vr_agg {w : World} {ps : List PV} {v : Value} (h : AllR w ps v.cells.toList) (hl : 2 ≤ ps.length) : VR (Kw w) (.agg (ps.map .pv)) v := by
  have hlen := h.1
  cases v with
  | agg cs =>
    have e : (Value.agg cs).cells.toList = cs.toList := rfl
    rw [e] at h
    have := VR.agg (K := Kw w) (ps.map .pv) cs.toList (by simpa using h.1) (fun i hi hi' => by
      simp only [List.getElem_map]
      exact .pv (h.2 i (by simpa using hi) hi'))
    simpa using this
  | _ => simp [Value.cells] at hlen; omega
/-- WHAT THE RUN GIVES, for every argument and every world. -/
theorem contract (H : Type) (enc : TypeId × Value → H) (W : World) (args : Array Value) (ds gs : List (DataW H)) (before : List MemPlace)
    (hW : DataW.Whole enc Tryz.prog Tryz.f3.params.toList Rows.treesRunSpec.vars false W args.toList ds gs before) (hcond : Rows.uptoSmall H (ds ++ gs) = true) :
    Calls Tryz.prog 3 args W fun e W' => ∃ v, e = .returned v ∧ Rows.treesRunSpec.post enc Tryz.prog Tryz.f3 false true false false W args v W' := by
  have hW' := hW
  obtain ⟨p, q, hA0, hV, rfl, hfz, hnd⟩ := hW
  have hA : DataW.TrodAll enc Tryz.prog W 0 (fun _ => true) true Tryz.f3.params.toList args.toList ds p := hA0
  rw [Tryz.params3] at hA
  obtain ⟨v0, vs0, d0, ds0, p0, q0, hargs, rfl, rfl, h0, r0⟩ := trodAll_cons hA
  obtain ⟨v1, vs1, d1, ds1, p1, q1, rfl, rfl, rfl, h1, r1⟩ := trodAll_cons r0
  obtain ⟨v2, vs2, d2, ds2, p2, q2, rfl, rfl, rfl, h2, r2⟩ := trodAll_cons r1
  obtain ⟨rfl, rfl, rfl⟩ := trodAll_nil r2
  obtain rfl : args = #[v0, v1, v2] := by cases args; simp_all
  obtain ⟨rfl, rfl⟩ := trodVars_none hV
  clear hA0
  simp only [List.append_nil] at hW' hcond
  have hlt : ∀ x ∈ p0 ++ (p1 ++ p2), x.block < W.heap.size := fun x hx => by simpa using hW'.lt x (by simpa using hx)
  have hb : Rows.uptoBulkAll [d0, d1, d2] ≤ 1048576 := of_decide_eq_true hcond
  simp only [Rows.uptoBulkAll] at hb
  obtain ⟨f0, g0⟩ := h0
  obtain ⟨f1, g1⟩ := h1
  obtain ⟨f2, g2⟩ := h2
  obtain ⟨t, ht, hts⟩ := rd_dec f0 _ d0 ⟨_, g0⟩
  obtain ⟨x, hx⟩ := rd_val f1 _ d1 ⟨_, g1⟩
  obtain ⟨pt, hp, hps⟩ := rd_pat f2 _ d2 ⟨_, g2⟩
  have hvl := Pt.vars_le pt []
  have hm := main3 awake4 t (t.ok (by omega)) x pt (Pt.ok pt pt.size (Nat.le_refl _) (by omega)) (by omega) (by omega) (fun y hy => by have := hvl.2 y hy; simp at this; omega) (by have := t.leaves_le; omega)
  have a0 := vr_agg ht (by rw [Dc.cells_len]; decide)
  have a1 := vr_agg hx (by rw [Vl.cells_len]; decide)
  have a2 := vr_agg hp (by rw [Pt.cells_len]; decide)
  have e0 : AV.agg (t.cells.map .pv) = dcA t := by obtain ⟨k, a, p, cs, es⟩ := t; rw [Dc.cells_mk]; rfl
  have e1 : AV.agg (x.cells.map .pv) = vlA x := by obtain ⟨k, n, s, ks⟩ := x; rw [Vl.cells_mk]; rfl
  have e2 : AV.agg (pt.cells.map .pv) = ptA pt := by obtain ⟨k, s, n, ks, a⟩ := pt; rw [Pt.cells_mk]; rfl
  rw [e0] at a0
  rw [e1] at a1
  rw [e2] at a2
  refine (hm (Kw W).R (Kw W) W [v0, v1, v2] rfl (WR.world W) ⟨rfl, fun i hi hi' => ?_⟩).mono ?_
  · match i, hi with
    | 0, _ => exact a0
    | 1, _ => exact a1
    | 2, _ => exact a2
  · rintro e W' ⟨u, K', rfl, hv, hst⟩
    have hb := hst.below
    have hu : u = .bool true := val_eq hv rfl
    subst hu
    exact ⟨_, rfl, _, _, _, [], p0 ++ (p1 ++ p2), [], hW', trodAll_cons_mk (shut_bool Tryz.underlying4 _) trodAll_mk0,
      trodAll_mk3 (Below.trod laidOut (by kernel_rfl) (of_decide_eq_true (by kernel_rfl)) ⟨f0, g0⟩ hb (fun x hx => hlt x (List.mem_append_left _ hx))) (Below.trod laidOut (by kernel_rfl) (of_decide_eq_true (by kernel_rfl)) ⟨f1, g1⟩ hb (fun x hx => hlt x (List.mem_append_right _ (List.mem_append_left _ hx)))) (Below.trod laidOut (by kernel_rfl) (of_decide_eq_true (by kernel_rfl)) ⟨f2, g2⟩ hb (fun x hx => hlt x (List.mem_append_right _ (List.mem_append_right _ hx)))), rfl, hb.frame _, fun h => by cases h⟩

/-- A WORLD FOR THE WITNESS: the settled one. -/
noncomputable def someWorld (os : Os) : World := World.holding Tryz.prog os ⟨#[], #[], []⟩
def z0 : Value := .agg #[.int .i64 0, .int .i64 0, .slice none 0 0, .slice none 0 0, .slice none 0 0]
def z1 : Value := .agg #[.int .i64 0, .int .i64 0, .string ByteArray.empty, .slice none 0 0]
def z2 : Value := .agg #[.int .i64 0, .string ByteArray.empty, .int .i64 0, .slice none 0 0, .int .i64 0]
theorem laid_met (os : Os) : laidMet Tryz.prog Rows.treesRunUptoRow.laid ((someWorld os).forCall (fun _ _ => 0) ⟨#[], #[z0, z1, z2], []⟩).memory :=
  laidMet_of_run' 8 (by kernel_rfl) (by kernel_rfl)
def y0 {H : Type} : DataW H := .agg [.lit (.int .i64 0), .lit (.int .i64 0), .nil, .nil, .nil]
def y1 {H : Type} : DataW H := .agg [.lit (.int .i64 0), .lit (.int .i64 0), .lit (.string []), .nil]
def y2 {H : Type} : DataW H := .agg [.lit (.int .i64 0), .lit (.string []), .lit (.int .i64 0), .nil, .lit (.int .i64 0)]
theorem reads (os : Os) {H : Type} (enc : TypeId × Value → H) : ∃ places, DataW.whole enc Tryz.prog ((someWorld os).forCall (fun _ _ => 0) ⟨#[], #[z0, z1, z2], []⟩).memory Tryz.f3.params.toList Rows.treesRunSpec.vars false #[z0, z1, z2].toList 8 = some ([y0, y1, y2], [], places) :=
  ⟨[], by kernel_rfl⟩

set_option maxRecDepth 100000 in
theorem lifted (os : Os) (started : os.Started) (H : Type) (enc : TypeId × Value → H) (F : Stop.Interp) :
    ReturnsInHanded {} Tryz.checked os 3 .any ((Rows.OpenSpec.upto Rows.treesRunSpec).preRow enc Tryz.prog Tryz.f3 Rows.treesRunUptoRow.domain false Rows.treesRunUptoRow.laid) (((Rows.OpenSpec.upto Rows.treesRunSpec).at F).post enc Tryz.prog Tryz.f3 false true false false) := by
  obtain ⟨places, hx⟩ := reads os enc
  refine returnsInHanded_of_row (C := Tryz.checked) (s := Rows.OpenSpec.upto Rows.treesRunSpec) own started (by kernel_rfl) Tryz.func3
    (witness_row_at (enc := enc) (C := Tryz.checked) false (someWorld os) #[z0, z1, z2] rfl (by kernel_rfl) (by kernel_rfl) (by kernel_rfl)
      (OpenSpec.preRow_of_cond 8 hx (by kernel_rfl) (fun k hk => by cases hk; kernel_rfl) (by kernel_rfl) (laid_met os))) ?_
  intro W base args ds gs before _ hW _ hcond _ _ _ _
  exact contract H enc W args ds gs before hW (hcond _ rfl)

theorem said : Rows.TreesRunUptoSaid :=
  OpenClaim.holds_of_cond 3 Tryz.f3 rfl rfl rfl rfl rfl rfl rfl ⟨rfl, rfl, rfl, rfl, rfl⟩ rfl rfl rfl rfl rfl (by kernel_rfl) Tryz.func3 (by kernel_rfl)
    (of_decide_eq_true (by kernel_rfl)) (by unfold Func.isWrapper; first | (rw [if_pos (by decide +kernel)]; kernel_rfl) | (rw [if_neg (by decide +kernel)]; exact ⟨rfl, rfl⟩))
    (fun os started H enc _ F => by rw [OpenClaim.pre_eq_preRow]; exact lifted os started H enc F)

#print axioms said
end Go.Proofs.YtmgmknpgikgnlaaGreat.treesRun
