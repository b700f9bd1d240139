/- 'qop' is right: all operations. -/
import Derived.Test.YtjpjcjnacnlhdaaGreatAb7
namespace Go.Proofs.YtjpjcjnacnlhdaaGreat
open Go.RowKit

section
variable {P : Program} {o : Oper} {ρ : Operand → Value} {ρA : Operand → Option AV} {K : Kn} {h : List AObj} {w : World}

theorem arr_map {α β : Type} (f : α → β) (a : Array α) : a.map f = (a.toList.map f).toArray := by
  rw [← Array.toList_map, Array.toArray_toList]
theorem qop_sound (H : WR K h w) (hρ : ∀ x v, ρA x = some v → VR K v (ρ x)) {v : AV} {dep : Option Nat} (hq : qop P o.op o.type ρA h = some (v, dep)) : Yld P o ρ K w v dep := by
  unfold qop at hq
  split at hq
  · rename_i x ho
    obtain ⟨a, ha, e⟩ := map_some' hq
    cases e
    exact .of (ρ x) (hρ x _ ha) (fun w' => by simp [execOp, ho])
  · rename_i x ho
    obtain ⟨a, ha, e⟩ := map_some' hq
    cases e
    exact .of (ρ x) (hρ x _ ha) (fun w' => by simp [execOp, ho])
  · rename_i c a b ho
    split at hq
    · rename_i t hc
      obtain ⟨r, hr, e⟩ := map_some' hq
      cases e
      have hcv : ρ c = .bool t := val_eq (hρ c _ hc) rfl
      cases t
      · exact .of (ρ b) (hρ b _ hr) (fun w' => by simp [execOp, ho, hcv, asBool])
      · exact .of (ρ a) (hρ a _ hr) (fun w' => by simp [execOp, ho, hcv, asBool])
    · cases hq
  · rename_i x ho
    split at hq
    · rename_i r hr
      split at hq
      · rename_i ht
        cases hq
        exact .of (ρ x) (hρ x _ hr) (fun w' => isThere_run (hρ x _ hr) ht x rfl ho w')
      · cases hq
    · cases hq
  · rename_i t x ho
    split at hq
    · rename_i a ha
      split at hq
      · rename_i l d hc
        obtain ⟨r, hr, e⟩ := map_some' hq
        cases e
        obtain ⟨g, off, cs, hx, hvl, hcell⟩ := cellsAt_sound H (hρ x _ ha) hc
        obtain ⟨u, hvu, hrun⟩ := loadA_sound hvl hr g off
        refine ⟨u, hvu, fun w' hM hd => ?_⟩
        have := hrun w' (hcell w' hM hd)
        simp [execOp, ho, Instr.loadAt, Instr.sureAddr, hx, this]
      · cases hq
    · cases hq
  · rename_i s x f ho
    split at hq
    · rename_i a fl ha hf
      split at hq
      · rename_i n hn
        obtain ⟨r, hr, e⟩ := map_some' hq
        cases e
        obtain ⟨fs, hu, hfs⟩ := fieldA_run hf
        obtain ⟨g, off, hx, hvr⟩ := addA_sound (hρ x _ ha) hr
        refine .of _ hvr (fun w' => ?_)
        simp [execOp, ho, Instr.fieldAt, run_underlying hu, hfs, Instr.sureAddr, hx, fieldPlace, szA_run hn, Addr.add_lit]
      · cases hq
    · cases hq
  · rename_i s x f ho
    split at hq
    · rename_i l fl hl hf
      obtain ⟨r, hr, e⟩ := map_some' hq
      cases e
      obtain ⟨fs, hu, hfs⟩ := fieldA_run hf
      have hx := hρ x _ hl
      generalize hxe : ρ x = xv at hx
      cases hx with
      | agg _ cs hlen hh =>
        obtain ⟨u, hvu, hrun⟩ := partA_sound (P := P) ⟨hlen, hh⟩ hr
        refine .of u hvu (fun w' => ?_)
        simp [execOp, ho, Instr.field, run_underlying hu, hfs, asAgg, hxe, hrun w']
    · cases hq
  · rename_i t x i ho
    split at hq
    · rename_i a b ha hb
      split at hq
      · rename_i n hn
        obtain ⟨r, hr, e⟩ := map_some' hq
        cases e
        obtain ⟨u, hvu, hrun⟩ := indexAtA_sound (P := P) (hρ x _ ha) (intV_sound (hρ i _ hb) hn) hr
        exact .of u hvu (fun w' => by simp [execOp, ho, hrun w'])
      · cases hq
    · cases hq
  · rename_i t x i ho
    split at hq
    · rename_i a b ha hb
      obtain ⟨r, hr, e⟩ := map_some' hq
      cases e
      obtain ⟨u, hvu, hrun⟩ := indexA_sound (P := P) (hρ x _ ha) (hρ i _ hb) hr
      exact .of u hvu (fun w' => by simp [execOp, ho, hrun w'])
    · cases hq
  · rename_i x i ho
    split at hq
    · rename_i l hl
      obtain ⟨r, hr, e⟩ := map_some' hq
      cases e
      have hx := hρ x _ hl
      generalize hxe : ρ x = xv at hx
      cases hx with
      | tup _ cs hlen hh =>
        obtain ⟨c, hc, hvc⟩ := VL.at_ (K := K) (cs := cs) ⟨hlen, hh⟩ hr
        refine .of c hvc (fun w' => ?_)
        simp [execOp, ho, Instr.extract, hxe, hc]
    · cases hq
  · rename_i b t x y yt ho
    split at hq
    · rename_i u1 v1 hu hv
      obtain ⟨r, hr, e⟩ := map_some' hq
      cases e
      obtain ⟨z, hvz, hrun⟩ := binA_sound (P := P) (hρ x _ hu) (hρ y _ hv) hr
      refine .of z hvz (fun w' => ?_)
      simp only [execOp, ho]
      rw [Sem.run_bind, hrun w']
      rfl
    · cases hq
  · rename_i u1 t x ho
    split at hq
    · rename_i r hr
      split at hq
      · rename_i a ha
        split at hq
        · rename_i z hz
          obtain ⟨r2, hr2, e⟩ := map_some' hq
          cases e
          have hx := val_eq (hρ x _ hr) ha
          refine .of z (ofVal_sound hr2) (fun w' => ?_)
          simp [execOp, ho, hx, pureRun_run hz w']
        · cases hq
      · cases hq
    · cases hq
  · rename_i s d x ho
    split at hq
    · rename_i r hr
      split at hq
      · rename_i a ha
        split at hq
        · rename_i z hz
          obtain ⟨r2, hr2, e⟩ := map_some' hq
          cases e
          have hx := val_eq (hρ x _ hr) ha
          refine .of z (ofVal_sound hr2) (fun w' => ?_)
          simp [execOp, ho, hx, pureRun_run hz w']
        · cases hq
      · cases hq
    · cases hq
  · rename_i t x lo hi mx ho
    split at hq
    · rename_i a ha
      obtain ⟨r, hr, e⟩ := map_some' hq
      cases e
      obtain ⟨u, hvu, hrun⟩ := sliceA_sound (P := P) hρ (hρ x _ ha) hr
      exact .of u hvu (fun w' => by simp [execOp, ho, hrun w'])
    · cases hq
  · rename_i f first caps ho
    split at hq
    · rename_i hf
      split at hq
      · rename_i l hl
        cases hq
        have hv := opsA_sound hρ _ _ hl
        have he : first = #[] := by simpa using hf
        subst he
        refine .of (.func (.func f) #[] (caps.toList.map ρ).toArray) (.fn f l _ hv.1 hv.2) (fun w' => ?_)
        simp [execOp, ho, Instr.makeFunc, arr_map ρ caps]
      · cases hq
    · cases hq
  · rename_i t parts ho
    split at hq
    · rename_i ps hps
      obtain ⟨r, hr, e⟩ := map_some' hq
      cases e
      obtain ⟨h1, h2⟩ := partsA_sound hρ _ _ hps
      obtain ⟨us, hb, hv⟩ := buildA_sound h1 h2 hr
      have he : us = us.toList.toArray := by simp
      refine .of (.agg us) (by rw [he]; exact .agg _ _ hv.1 hv.2) (fun w' => ?_)
      have hp : (parts.map fun (i, x) => (i, ρ x)).toList = evParts ρ parts.toList := by simp [evParts]
      have := run_build (P := P) w' t (parts.map fun (i, x) => (i, ρ x)) us (by rw [hp]; exact hb)
      simp only [execOp, ho, Sem.run_bind, this, Result.andThen_ok, Sem.run_pure]
    · cases hq
  · rename_i b args ts ho
    split at hq
    · rename_i vs hvs
      obtain ⟨r, hr, e⟩ := map_some' hq
      cases e
      have hv := opsA_sound hρ _ _ hvs
      obtain ⟨u, hvu, hrun⟩ := builtinA_sound (P := P) hv hr (args.map fun | .const _ => true | _ => false)
      refine .of u hvu (fun w' => ?_)
      have hm : args.map ρ = (args.toList.map ρ).toArray := arr_map ρ args
      simp only [execOp, ho, resolve, invoke, Sem.run_bind, Sem.run_pure, Result.andThen_ok, hm]
      exact hrun w'
    · cases hq
  · cases hq
end
end Go.Proofs.YtjpjcjnacnlhdaaGreat
