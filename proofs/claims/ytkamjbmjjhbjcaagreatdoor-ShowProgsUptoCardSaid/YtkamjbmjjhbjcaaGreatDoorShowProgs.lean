import Derived.Test.YtkamjbmjjhbjcaaGreatDoorCards
import Derived.Test.YtkamjbmjjhbjcaaGreatDoorTie
import Derived.Test.YtkamjbmjjhbjcaaGreatDoorBy
import Derived.Test.YtkamjbmjjhbjcaaGreatDoorBg
import Derived.ProofKit
import Derived.OpenShut
import Derived.ShutString
import Derived.Carry
import Derived.Deep.DeepHandedRow
import Derived.Lib.LaidTab
import Derived.Lib.LaidU8
set_option linter.unusedVariables false
set_option linter.unusedSimpArgs false
set_option linter.unusedSectionVars false
namespace Go.Proofs.YtkamjbmjjhbjcaaGreatDoor.showProgs
open Go.ChangeShapes Go.WideShapes Go.ChangeAt Go.RowKit
theorem own : ownKnob Tryz.prog.godebug = none := by kernel_rfl
set_option maxRecDepth 100000 in
theorem laidOut : laidOutB Tryz.prog = true := by kernel_rfl
theorem vr_agg {w : World} (ht : TabsIn w) {ps : List PV} {v : Value} (h : AllR w ps v.cells.toList) (hl : 2 ≤ ps.length) : VR (Kw w ht) (.agg (ps.map .pv)) v := by
  have hlen := h.1
  cases v with
  | agg cs =>
    have e : (Value.agg cs).cells.toList = cs.toList := rfl
    rw [e] at h
    have := VR.agg (K := Kw w ht) (ps.map .pv) cs.toList (by simpa using h.1) (fun i hi hi' => by
      simp only [List.getElem_map]
      exact .pv (h.2 i (by simpa using hi) hi'))
    simpa using this
  | _ => simp [Value.cells] at hlen; omega
theorem kids_at {P : Program} {w : World} {n : String} {g : Nat} {t e : TypeId} {k : IntKind} {m : Nat} {zs : List Int} (h : Lib.VarReads P w n (Lib.tabData k zs)) (hg : P.globalNamed n = some g) (hty : (P.globals[g]?).map (·.type) = some t) (ht : P.underlying t = some (.array m e)) (he : P.underlying e = some (.int k)) (hce : P.cellsOf e = 1) (hct : P.cellsOf t = m) :
    ∀ (i : Nat) (v : Value), (zs.map fun z => Value.int k z)[i]? = some v → w.cell? ⟨g, i, none⟩ = some v := by
  obtain ⟨g', t', cs, fuel, p, h1, h2, hvar, hd⟩ := h
  obtain rfl := Option.some.inj (hg.symm.trans h1)
  obtain rfl := Option.some.inj (hty.symm.trans h2)
  have hcs := Lib.cells_of_tab ht he hce hct hd
  intro i v hv
  rw [World.var?_cell h1 hvar i, ← Array.getElem?_toList, hcs]
  exact hv
theorem acc_at {P : Program} {w : World} {n : String} {g : Nat} {t e u : TypeId} {fs : Array Field} (h : Lib.VarReads P w n Lib.acceptData) (hg : P.globalNamed n = some g) (hty : (P.globals[g]?).map (·.type) = some t) (ht : P.underlying t = some (.array 16 e)) (he : P.underlying e = some (.struct fs)) (hf : ∀ (i : Nat) (f : Field), fs[i]? = some f → P.underlying f.type = some (.int .u8) ∧ f.offset = i ∧ P.cellsOf f.type = 1) (hce : P.cellsOf e = fs.size) (hfs : fs.size = 2) :
    ∀ (i : Nat), i < 16 → w.cell? ⟨g, 2 * i, none⟩ = some (.int .u8 (Lib.accLo i)) ∧ w.cell? ⟨g, 2 * i + 1, none⟩ = some (.int .u8 (Lib.accHi i)) := by
  obtain ⟨g', t', cs, fuel, p, h1, h2, hvar, hd⟩ := h
  obtain rfl := Option.some.inj (hg.symm.trans h1)
  obtain rfl := Option.some.inj (hty.symm.trans h2)
  intro i hi
  obtain ⟨fuel', d, q, hdi, hx⟩ := Lib.array_elem ht hd i hi
  simp only [List.getElem?_map, List.getElem?_range hi, Option.map_some, Option.some.injEq] at hdi
  subst hdi
  rw [hce] at hx
  have hcs := Lib.ints_of_struct he hf hce hx
  rw [hfs] at hcs
  have e0 := congrArg (·[0]?) hcs
  have e1 := congrArg (·[1]?) hcs
  simp only [List.getElem?_take, List.getElem?_drop] at e0 e1
  constructor
  · rw [World.var?_cell h1 hvar (2 * i), ← Array.getElem?_toList]
    simpa [Nat.mul_comm] using e0
  · rw [World.var?_cell h1 hvar (2 * i + 1), ← Array.getElem?_toList]
    simpa [Nat.mul_comm] using e1
theorem first_eq : (Rows.laid_unicode_utf8_first : DataW Unit) = Lib.tabData .u8 Lib.firstTab := by kernel_rfl
theorem acc_eq : (Rows.laid_unicode_utf8_acceptRanges : DataW Unit) = Lib.acceptData := by kernel_rfl
theorem kids_eq : (Rows.laid_cognate_cognateref07_kids : DataW Unit) = Lib.tabData .i64 [-1, 0, 0, 0, 0, 2, 1, 1, 1, 3, 2, 2, 1] := by kernel_rfl
theorem tabs_in {W : World} (h : laidMet Tryz.prog Rows.showProgsUptoRow.laid W) : TabsIn W := by
  have h0 := Lib.laidMet.reads h (List.Mem.head _)
  have h1 := Lib.laidMet.reads h (List.Mem.tail _ (List.Mem.head _))
  have h2 := Lib.laidMet.reads h (List.Mem.tail _ (List.Mem.tail _ (List.Mem.head _)))
  rw [kids_eq] at h0
  rw [acc_eq] at h1
  rw [first_eq] at h2
  have k0 := kids_at (g := 0) (t := 52) (e := 3) (m := 13) h0 (by kernel_rfl) (by kernel_rfl) (by kernel_rfl) (by kernel_rfl) (by kernel_rfl) (by kernel_rfl)
  have k2 := kids_at (g := 1) (t := 144) (e := 5) (m := 256) h2 (by kernel_rfl) (by kernel_rfl) (by kernel_rfl) (by kernel_rfl) (by kernel_rfl) (by kernel_rfl)
  have L := Tryz.lays196
  have k1 := acc_at (g := 2) (t := 147) (e := 146) (u := 0) h1 (by kernel_rfl) (by kernel_rfl) (by kernel_rfl) L.t138 (fun i f hf => by
    match i, hf with
    | 0, hf => simp at hf; subst hf; exact ⟨L.t5, rfl, by kernel_rfl⟩
    | 1, hf => simp at hf; subst hf; exact ⟨L.t5, rfl, by kernel_rfl⟩
    | i + 2, hf => simp at hf) (by kernel_rfl) rfl
  intro b cs hb i v hv
  match b, hb with
  | 0, hb => cases hb; exact k0 i v hv
  | 1, hb =>
    cases hb
    refine k2 i v ?_
    rw [← hv]
    unfold firstL Lib.firstTab
    rw [List.map_map]
    rfl
  | 2, hb =>
    cases hb
    have hlt : i < accL.length := (List.getElem?_eq_some_iff.1 hv).1
    have hlen : accL.length = 32 := by kernel_rfl
    obtain ⟨m, hm⟩ : ∃ m, m = i / 2 := ⟨_, rfl⟩
    have h16 : m < 16 := by omega
    have a := accL_at h16
    have k := k1 m h16
    by_cases hi : i = 2 * m
    · subst hi
      rw [a.1] at hv
      rw [k.1, ← hv]
    · have hi2 : i = 2 * m + 1 := by omega
      subst hi2
      rw [a.2] at hv
      rw [k.2, ← hv]
  | b + 3, hb => cases hb
set_option maxRecDepth 100000 in
/-- WHAT THE RUN GIVES, for every argument and every world. -/
theorem contract (H : Type) (enc : TypeId × Value → H) (W : World) (base : Nat) (args : Array Value) (ds gs : List (DataW H)) (before : List MemPlace)
    (hval : ∀ (j : Nat) t v, Tryz.f5.params[j]? = some t → args[j]? = some v → Value.okWide Tryz.prog W .any base t v)
    (hW : DataW.Whole enc Tryz.prog Tryz.f5.params.toList Rows.showProgsSpec.vars false W args.toList ds gs before) (hcond : Rows.uptoSmall H (ds ++ gs) = true) (hl : laidMet Tryz.prog Rows.showProgsUptoRow.laid W) :
    Calls Tryz.prog 5 args W fun e W' => ∃ v, e = .returned v ∧ Rows.showProgsSpec.post enc Tryz.prog Tryz.f5 false true false false W args v W' := by
  have hW' := hW
  obtain ⟨p, q, hA0, hV, rfl, hfz, hnd⟩ := hW
  have hA : DataW.TrodAll enc Tryz.prog W 0 (fun _ => true) true Tryz.f5.params.toList args.toList ds p := hA0
  rw [Tryz.params5] at hA hval
  have ht := tabs_in hl
  obtain ⟨v0, vs0, d0, ds0, p0, q0, hargs, rfl, rfl, h0, r0⟩ := trodAll_cons hA
  obtain ⟨rfl, rfl, rfl⟩ := trodAll_nil r0
  obtain rfl : args = #[v0] := by cases args; simp_all
  obtain ⟨rfl, rfl⟩ := trodVars_none hV
  clear hA0
  simp only [List.append_nil] at hW' hcond
  have hlt : ∀ x ∈ p0, x.block < W.heap.size := fun x hx => by simpa using hW'.lt x (by simpa using hx)
  have hb : Rows.uptoBulkAll [d0] ≤ 1048576 := of_decide_eq_true hcond
  simp only [Rows.uptoBulkAll] at hb
  obtain ⟨f0, g0⟩ := h0
  obtain ⟨a, b, c, e, hp, hpo⟩ := rd_Pg f0 _ d0 ⟨⟨_, g0⟩, by omega⟩
  have hm := law_sem a b c e (by omega)
  have a0 := vr_agg ht hp (by simp)
  refine (hm (Kw W ht).R (Kw W ht) W [v0] rfl (WR.world W ht) ⟨rfl, fun i hi hi' => ?_⟩).mono ?_
  · match i, hi with
    | 0, _ => exact a0
  · rintro e W' ⟨K', he, hst⟩
    obtain ⟨u, rfl, hv⟩ := he.ret rfl
    have hb := hst.below
    have hu : u = .bool true := val_eq hv rfl
    subst hu
    exact ⟨_, rfl, _, _, _, [], p0, [], hW', trodAll_cons_mk (shut_bool Tryz.underlying4 _) trodAll_mk0,
      trodAll_mk1 (Below.trod laidOut (by kernel_rfl) (of_decide_eq_true (by kernel_rfl)) ⟨f0, g0⟩ hb (fun x hx => hlt x hx)), rfl, hb.frame _, fun h => by cases h⟩
def firstCells : Array Value := (Go.Pinned.utf8FirstZ.map fun n : Nat => Value.int .u8 (n : Int)).toArray
def kidsCells : Array Value := #[.int .i64 (-1), .int .i64 0, .int .i64 0, .int .i64 0, .int .i64 0, .int .i64 2, .int .i64 1, .int .i64 1, .int .i64 1, .int .i64 3, .int .i64 2, .int .i64 2, .int .i64 1]
def acceptCells : Array Value := #[.int .u8 128, .int .u8 191, .int .u8 160, .int .u8 191, .int .u8 128, .int .u8 159, .int .u8 144, .int .u8 191, .int .u8 128, .int .u8 143, .int .u8 0, .int .u8 0, .int .u8 0, .int .u8 0, .int .u8 0, .int .u8 0, .int .u8 0, .int .u8 0, .int .u8 0, .int .u8 0, .int .u8 0, .int .u8 0, .int .u8 0, .int .u8 0, .int .u8 0, .int .u8 0, .int .u8 0, .int .u8 0, .int .u8 0, .int .u8 0, .int .u8 0, .int .u8 0]
def putCells (xs : Array Value) : Obj → Obj
  | .cells _ t frozen => .cells xs t frozen
  | o => o
noncomputable def laidWorld (os : Os) : World :=
  { World.holding Tryz.prog os ⟨#[], #[], []⟩ with heap := (((World.holding Tryz.prog os ⟨#[], #[], []⟩).heap.modify 0 (putCells kidsCells)).modify 1 (putCells firstCells)).modify 2 (putCells acceptCells) }
def z0 : Value := .agg #[.slice none 0 0, .slice none 0 0, .slice none 0 0, .slice none 0 0]
theorem laid_met (os : Os) : laidMet Tryz.prog Rows.showProgsUptoRow.laid ((laidWorld os).forCall (fun _ _ => 0) ⟨#[], #[z0], []⟩).memory :=
  laidMet_of_run' 8 (by kernel_rfl) (by kernel_rfl)
def y0 {H : Type} : DataW H := .agg [.nil, .nil, .nil, .nil]
theorem reads (os : Os) {H : Type} (enc : TypeId × Value → H) : ∃ places, DataW.whole enc Tryz.prog ((laidWorld os).forCall (fun _ _ => 0) ⟨#[], #[z0], []⟩).memory Tryz.f5.params.toList Rows.showProgsSpec.vars false #[z0].toList 8 = some ([y0], [], places) :=
  ⟨[], by kernel_rfl⟩
set_option maxRecDepth 100000 in
theorem lifted (os : Os) (started : os.Started) (H : Type) (enc : TypeId × Value → H) (F : Stop.Interp) :
    ReturnsInHanded {} Tryz.checked os 5 .any ((Rows.OpenSpec.upto Rows.showProgsSpec).preRow enc Tryz.prog Tryz.f5 Rows.showProgsUptoRow.domain false Rows.showProgsUptoRow.laid) (((Rows.OpenSpec.upto Rows.showProgsSpec).at F).post enc Tryz.prog Tryz.f5 false true false false) := by
  obtain ⟨places, hx⟩ := reads os enc
  refine returnsInHanded_of_row (C := Tryz.checked) (s := Rows.OpenSpec.upto Rows.showProgsSpec) own started (by kernel_rfl) Tryz.func5
    (witness_row_at (enc := enc) (C := Tryz.checked) false (laidWorld os) #[z0] rfl (by kernel_rfl) (by kernel_rfl) (by kernel_rfl)
      (OpenSpec.preRow_of_cond 8 hx (by kernel_rfl) (fun k hk => by cases hk; kernel_rfl) (by kernel_rfl) (laid_met os))) ?_
  intro W base args ds gs before hval hW _ hcond _ hl _ _
  exact contract H enc W base args ds gs before hval hW (hcond _ rfl) (laidMetH_iff.1 hl).1
theorem said : Rows.ShowProgsUptoSaid :=
  OpenClaim.holds_of_cond 5 Tryz.f5 rfl rfl rfl rfl rfl rfl rfl ⟨rfl, rfl, rfl, rfl, rfl⟩ rfl rfl rfl rfl rfl (by kernel_rfl) Tryz.func5 (by kernel_rfl)
    (of_decide_eq_true (by kernel_rfl)) (by unfold Func.isWrapper; first | (rw [if_pos (by decide +kernel)]; kernel_rfl) | (rw [if_neg (by decide +kernel)]; exact ⟨rfl, rfl⟩))
    (fun os started H enc _ F => by rw [OpenClaim.pre_eq_preRow]; exact lifted os started H enc F)
theorem plain (f : FuncId) (fn : Func) (hf : Tryz.pinned.checked.prog.funcNamed "cognate/cognatelaw07.ShowProgs" = some f) (hfn : Tryz.pinned.checked.prog.funcs[f]? = some fn) :
    false = Tryz.pinned.checked.prog.looks [] ∧ ∀ (j : Nat) t, fn.params[j]? = some t → Tryz.pinned.checked.prog.wantsStandIn t = false := by
  obtain rfl : f = 5 := Option.some.inj ((show Tryz.prog.funcNamed "cognate/cognatelaw07.ShowProgs" = some 5 by kernel_rfl).symm.trans hf) |>.symm
  obtain rfl : fn = Tryz.f5 := (Option.some.inj (Tryz.func5.symm.trans hfn)).symm
  refine ⟨by kernel_rfl, fun j t ht => ?_⟩
  rw [Tryz.params5] at ht
  obtain rfl : t = 46 := by simpa using Array.mem_of_getElem? ht
  exact (show Tryz.prog.wantsStandIn 46 = false by kernel_rfl)
theorem card : Rows.ShowProgsUptoCardSaid :=
  Claim7.holds_tied_plain_at .later [] _ _ _ _ said (fun _ h => by cases h) (by kernel_rfl) (fun _ h => by cases h) showProgsUpto_row_tie rfl ⟨rfl, rfl⟩ (by kernel_rfl) rfl plain (by kernel_rfl)
#print axioms card
end Go.Proofs.YtkamjbmjjhbjcaaGreatDoor.showProgs
