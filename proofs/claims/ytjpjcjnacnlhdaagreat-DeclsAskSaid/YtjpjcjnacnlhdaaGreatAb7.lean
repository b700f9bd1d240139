/- 'qop' is right: slices, builtins, all. -/
import Derived.Test.YtjpjcjnacnlhdaaGreatAb6
namespace Go.Proofs.YtjpjcjnacnlhdaaGreat
open Go.RowKit

section
variable {P : Program} {o : Oper} {ρ : Operand → Value} {ρA : Operand → Option AV} {K : Kn} {h : List AObj} {w : World}

theorem boundA_sound (hρ : ∀ x v, ρA x = some v → VR K v (ρ x)) {d : Nat} {x : Option Operand} {n : Nat} (hb : boundA ρA d x = some n) :
    (x = none ∧ n = d) ∨ ∃ y k, x = some y ∧ ρ y = .int k (n : Int) := by
  unfold boundA at hb
  split at hb
  · cases hb; exact .inl ⟨rfl, rfl⟩
  · rename_i y
    split at hb
    · rename_i v hv
      split at hb
      · rename_i m hm
        split at hb
        · rename_i h0
          cases hb
          obtain ⟨k, hk⟩ := intV_sound (hρ y v hv) hm
          exact .inr ⟨y, k, rfl, by rw [hk]; congr 1; omega⟩
        · cases hb
      · cases hb
    · cases hb
theorem valsA_sound (hρ : ∀ x v, ρA x = some v → VR K v (ρ x)) {x : Option Operand} {r : Option Value} (hb : valsA ρA x = some r) : x.map ρ = r := by
  unfold valsA at hb
  split at hb
  · cases hb; rfl
  · rename_i y
    split at hb
    · rename_i v hv
      cases hq : v.val? with
      | none => rw [hq] at hb; cases hb
      | some u =>
        rw [hq] at hb
        cases hb
        rw [Option.map_some, val_eq (hρ y v hv) hq]
    · cases hb
theorem run_sliceBound (w' : World) (k : IntKind) (n y : Nat) (c : BoundsCode) (h : n ≤ y) : (Instr.sliceBound (.int k (n : Int)) y c).run P w' = .ok n w' := by
  have : ((n : Int) ≤ (y : Int)) := by omega
  simp [Instr.sliceBound, asIntOf, this]
theorem row_cut {es : List (List PV)} {a : Option Addr} {len cap l r s : Nat} (hv : PR K.R K.M (.rows es) (.slice a len cap)) (hlr : l ≤ r) (hr : r ≤ es.length) (hs : l = 0 ∨ es.head?.map List.length = some s) :
    PR K.R K.M (.rows ((es.drop l).take (r - l))) (.slice (if cap = l then a else a.map (·.add (l * s))) (r - l) (cap - l)) := by
  cases hv with
  | rows es a cap g off sz us ha hn hsz hc hr' =>
    have hlen : ((es.drop l).take (r - l)).length = r - l := by simp; omega
    have hss : l = 0 ∨ (es ≠ [] → s = sz) := by
      rcases hs with hs | hs
      · exact .inl hs
      · right
        intro hne
        cases es with
        | nil => exact absurd rfl hne
        | cons e es =>
          have := hsz 0 (by simp)
          simp at hs this
          omega
    have key := PR.rows (R := K.R) (M := K.M) ((es.drop l).take (r - l)) (if cap = l then a else a.map (·.add (l * s))) (cap - l) g (off + l * sz) sz (fun i j => us (l + i) j)
      (fun hne => by
        have hpos : 0 < r - l := by rw [← hlen]; exact List.length_pos_iff.2 hne
        have hes : es ≠ [] := by rintro rfl; simp at hr; omega
        rw [if_neg (by omega), ha hes]
        rcases hss with h0 | hss
        · subst h0; simp [Addr.add_lit]
        · rw [hss hes]; simp [Addr.add_lit])
      (by rw [hlen]; omega)
      (fun i hi => by rw [List.getElem_take, List.getElem_drop]; exact hsz _ _)
      (fun i hi j hj => by
        rw [hlen] at hi
        have := hc (l + i) (by omega) j hj
        rw [Nat.add_mul] at this
        rwa [show off + l * sz + i * sz + j = off + (l * sz + i * sz) + j by omega])
      (fun i hi j hj => by
        rw [hlen] at hi
        have := hr' (l + i) (by omega) j (by rw [List.getElem_take, List.getElem_drop] at hj; exact hj)
        simpa [List.getElem_take, List.getElem_drop] using this)
    rw [hlen] at key
    exact key
theorem sliceA_sound (hρ : ∀ x v, ρA x = some v → VR K v (ρ x)) {t : TypeId} {a b : AV} {v : Value} {lo hi mx : Option Operand} (hv : VR K a v) (hq : sliceA P t ρA a lo hi mx = some b) :
    ∃ u, VR K b u ∧ ∀ w' : World, (Instr.sliceAt t v (lo.map ρ) (hi.map ρ) (mx.map ρ)).run P w' = .ok u w' := by
  unfold sliceA at hq
  split at hq
  · rename_i es hes
    split at hq
    · rename_i e l r hu hl hr
      split at hq
      · rename_i s hs
        split at hq
        · rename_i hc
          cases hq
          have hp := rowsOf_sound hv hes
          obtain ⟨ad, cap, rfl, hcap⟩ : ∃ ad cap, v = .slice ad es.length cap ∧ es.length ≤ cap := by
            cases hp with
            | rows _ a cap g off sz us ha hn _ _ _ => exact ⟨a, cap, rfl, hn⟩
          refine ⟨_, .pv (row_cut hp hc.1 hc.2.1 hc.2.2), fun w' => ?_⟩
          have hB : (Instr.sliceBounds true es.length cap (lo.map ρ) (hi.map ρ) none).run P w' = .ok (l, r, cap) w' := by
            have h1 : ∀ k c, (Instr.sliceBound (.int k (r : Int)) cap c).run P w' = .ok r w' := fun k c => run_sliceBound w' k r cap c (by omega)
            have h2 : ∀ k c, (Instr.sliceBound (.int k (l : Int)) r c).run P w' = .ok l w' := fun k c => run_sliceBound w' k l r c hc.1
            rcases boundA_sound hρ hr with ⟨rfl, rfl⟩ | ⟨y, k, rfl, hy⟩
            · rcases boundA_sound hρ hl with ⟨rfl, rfl⟩ | ⟨z, k', rfl, hz⟩
              · simp [Instr.sliceBounds]
              · simp [Instr.sliceBounds, hz, h2]
            · rcases boundA_sound hρ hl with ⟨rfl, rfl⟩ | ⟨z, k', rfl, hz⟩
              · simp [Instr.sliceBounds, hy, h1]
              · simp [Instr.sliceBounds, hy, hz, h1, h2]
          simp [Instr.sliceAt, Instr.slice, run_underlying hu, hB, szA_run hs]
        · cases hq
      · cases hq
    · cases hq
  · split at hq
    · rename_i x l r m hx hl hr hm
      split at hq
      · rename_i u hp
        have e := val_eq hv hx
        subst e
        rw [valsA_sound hρ hl, valsA_sound hρ hr, valsA_sound hρ hm]
        exact ⟨u, ofVal_sound hq, pureRun_run hp⟩
      · cases hq
    · cases hq
theorem litsL_eq : ∀ {l : List AV} {cs us : List Value}, VL K l cs → litsL l = some us → cs = us
  | [], cs, us, h, hu => by
    cases hu
    exact List.eq_nil_of_length_eq_zero h.1.symm
  | a :: l, [], us, h, _ => by have := h.1; simp at this
  | a :: l, c :: cs, us, h, hu => by
    rw [litsL] at hu
    split at hu
    · rename_i v vs h1 h2
      cases hu
      have e1 := val_eq (h.2 0 (by simp) (by simp)) h1
      have e2 := litsL_eq (cs := cs) ⟨by simpa using h.1, fun i hi hi' => h.2 (i + 1) (by simpa using hi) (by simpa using hi')⟩ h2
      simp only [List.getElem_cons_zero] at e1
      rw [e1, e2]
    · cases hu
theorem builtinA_sound {b : Builtin} {ts : Array TypeId} {ty : TypeId} {vs : List AV} {us : List Value} {r : AV} (hv : VL K vs us) (hq : builtinA P b ts ty vs = some r) (cs : Array Bool) :
    ∃ u, VR K r u ∧ ∀ w' : World, (builtin b ts ty cs us.toArray).run P w' = .ok (.value u) w' := by
  unfold builtinA at hq
  split at hq
  · split at hq
    · rename_i x
      obtain ⟨c, rfl, hx⟩ : ∃ c, us = [c] ∧ VR K x c := by
        match us, hv with
        | [], hv => have := hv.1; simp at this
        | [c], hv => exact ⟨c, rfl, hv.2 0 (by simp) (by simp)⟩
        | _ :: _ :: _, hv => have := hv.1; simp at this
      split at hq
      · rename_i r' hr
        cases hq
        unfold lenA at hr
        split at hr
        · rename_i ne lo hi t ht
          split at hr
          · rename_i hu
            cases hr
            cases hx with
            | pv hp =>
              cases hp with
              | opq _ _ _ s _ hlo hhi =>
                refine ⟨_, .pv (.rng lo hi s.size (by omega) (by omega)), fun w' => ?_⟩
                simp [builtin, Builtin.len_, ht, run_underlying hu, goInt]
          · cases hr
        · rename_i t _ ht
          split at hr
          · rename_i es hes
            split at hr
            · rename_i e hu
              cases hr
              have hp := rowsOf_sound hx hes
              obtain ⟨ad, cap, rfl⟩ : ∃ ad cap, c = .slice ad es.length cap := by
                cases hp with
                | rows _ a cap g off sz us ha hn _ _ _ => exact ⟨a, cap, rfl⟩
              refine ⟨_, .pv (.lit _ rfl), fun w' => ?_⟩
              simp [builtin, Builtin.len_, ht, run_underlying hu, goInt]
            · cases hr
          · cases hr
        · cases hr
      · split at hq
        · rename_i v hv'
          split at hq
          · rename_i u hp
            have e := val_eq hx hv'
            subst e
            refine ⟨u, ofVal_sound hq, fun w' => ?_⟩
            have := pureRun_run hp w'
            simp [builtin, this]
          · cases hq
        · cases hq
    · cases hq
  · split at hq
    · rename_i l hl
      split at hq
      · rename_i u hp
        rw [litsL_eq hv hl]
        refine ⟨u, ofVal_sound hq, fun w' => ?_⟩
        have := pureRun_run hp w'
        simp [builtin, this]
      · cases hq
    · cases hq
  · split at hq
    · rename_i l hl
      split at hq
      · rename_i u hp
        rw [litsL_eq hv hl]
        refine ⟨u, ofVal_sound hq, fun w' => ?_⟩
        have := pureRun_run hp w'
        simp [builtin, this]
      · cases hq
    · cases hq
  · cases hq
theorem isThere_run {v : AV} {u : Value} (hv : VR K v u) (ht : v.isThere = true) (x : Operand) (hx : ρ x = u) (ho : o.op = .nilCheck x) (w' : World) : (execOp ρ o).run P w' = .ok (.value u) w' := by
  cases hv with
  | ptr => simp [execOp, ho, hx]
  | cptr => simp [execOp, ho, hx]
  | fn => simp [execOp, ho, hx]
  | _ => cases ht
theorem map_some' {α β : Type} {f : α → β} {x : Option α} {y : β} (h : x.map f = some y) : ∃ a, x = some a ∧ f a = y := by
  cases x with
  | none => cases h
  | some a => exact ⟨a, rfl, by simpa using h⟩
end
end Go.Proofs.YtjpjcjnacnlhdaaGreat
