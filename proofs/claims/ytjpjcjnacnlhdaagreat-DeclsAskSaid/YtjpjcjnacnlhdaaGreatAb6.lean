/- 'qop' is right. -/
import Derived.Test.YtjpjcjnacnlhdaaGreatAb5
namespace Go.Proofs.YtjpjcjnacnlhdaaGreat
open Go.RowKit

section
variable {P : Program} {o : Oper} {ρ : Operand → Value} {ρA : Operand → Option AV} {K : Kn} {h : List AObj} {w : World}

theorem Yld.of {v : AV} {dep : Option Nat} (u : Value) (hu : VR K v u) (hr : ∀ w' : World, (execOp ρ o).run P w' = .ok (.value u) w') : Yld P o ρ K w v dep := ⟨u, hu, fun w' _ _ => hr w'⟩

theorem cellsAt_sound (H : WR K h w) {a : AV} {v : Value} (hv : VR K a v) {l : List AV} {d : Option Nat} (hc : cellsAt h a = some (l, d)) :
    ∃ g off cs, v = .pointer (some ⟨g, off, none⟩) ∧ VL K l cs ∧ ∀ w' : World, (∀ g o c, K.M g o = some c → w'.cell? ⟨g, o, none⟩ = some c) → (∀ i, d = some i → ∀ g, K.mu i = some g → w'.heap[g]? = w.heap[g]?) →
      ∀ j c, cs[j]? = some c → w'.cell? ⟨g, off + j, none⟩ = some c := by
  cases hv with
  | ptr i o g hm =>
    simp only [cellsAt, boxAt] at hc
    split at hc
    · rename_i c hb
      cases hc
      split at hb
      · rename_i ty c' hi
        cases hb
        obtain ⟨g', cs, hm', hw, _, hvl⟩ := H.box i ty c hi
        rw [hm] at hm'
        cases hm'
        refine ⟨g, o, (cs.toList.take c.length).drop o, rfl, hvl.drop o, fun w' _ hd j x hj => ?_⟩
        have := hd i rfl g hm
        rw [World.cell?_of_block (w := w) this]
        rw [List.getElem?_drop, List.getElem?_take] at hj
        split at hj
        · rw [Array.getElem?_toList] at hj
          simp [World.cell?, hw, hj]
        · cases hj
      · cases hb
    · cases hc
  | cptr cs g o us hcm hr =>
    cases hc
    refine ⟨g, o, (List.range cs.length).map us, rfl, ⟨by simp, fun i hi hi' => ?_⟩, fun w' hM _ j x hj => ?_⟩
    · simp only [List.getElem_map, List.getElem_range]
      exact .pv (hr i (by simpa using hi))
    · have hl : j < cs.length := by
        by_cases hh : j < cs.length
        · exact hh
        · rw [List.getElem?_eq_none (by simp; omega)] at hj; cases hj
      rw [List.getElem?_map, List.getElem?_range hl] at hj
      cases hj
      exact hM _ _ _ (hcm j hl)
  | _ => cases hc
theorem addA_sound {a b : AV} {v : Value} {n : Nat} (hv : VR K a v) (ha : addA a n = some b) : ∃ g o, v = .pointer (some ⟨g, o, none⟩) ∧ VR K b (.pointer (some ⟨g, o + n, none⟩)) := by
  cases hv with
  | ptr i o g hm => cases ha; exact ⟨g, o, rfl, .ptr i (o + n) g hm⟩
  | cptr cs g o us hc hr =>
    cases ha
    refine ⟨g, o, rfl, .cptr (cs.drop n) g (o + n) (fun j => us (n + j)) (fun j hj => ?_) (fun j hj => ?_)⟩
    · rw [Nat.add_assoc]; exact hc (n + j) (by simp at hj; omega)
    · rw [List.getElem_drop]; exact hr (n + j) (by simp at hj; omega)
  | _ => cases ha
theorem rowsOf_sound {a : AV} {v : Value} {es : List (List PV)} (hv : VR K a v) (h : rowsOf a = some es) : PR K.R K.M (.rows es) v := by
  refine hv.toPV ?_
  cases a with
  | pv p => cases p <;> first | (cases h; rfl) | cases h
  | trows t es' => cases h; rfl
  | _ => cases h
theorem intV_sound {a : AV} {v : Value} {n : Int} (hv : VR K a v) (h : intV a = some n) : ∃ k, v = .int k n := by
  cases hv with
  | pv hp => cases hp with
    | lit v _ => cases v <;> first | (cases h; exact ⟨_, rfl⟩) | cases h
    | _ => cases h
  | _ => cases h
theorem fieldA_run {s : TypeId} {f : Nat} {fl : Field} (h : fieldA P s f = some fl) : ∃ fs, P.underlying s = some (.struct fs) ∧ fs[f]? = some fl := by
  unfold fieldA at h
  split at h
  · rename_i fs hu; exact ⟨fs, hu, h⟩
  · cases h
theorem row_at {es : List (List PV)} {v : Value} (hv : PR K.R K.M (.rows es) v) {i : Nat} {c : List PV} (hi : es[i]? = some c) :
    ∃ g off cap, v = .slice (some ⟨g, off, none⟩) es.length cap ∧ VR K (.cptr c) (.pointer (some ⟨g, off + i * c.length, none⟩)) := by
  cases hv with
  | rows es a cap g off sz us ha hn hsz hc hr =>
    have hl : i < es.length := by
      by_cases hh : i < es.length
      · exact hh
      · rw [List.getElem?_eq_none (by omega)] at hi; cases hi
    rw [List.getElem?_eq_getElem hl] at hi
    cases hi
    have hne : es ≠ [] := by rintro rfl; simp at hl
    rw [ha hne]
    refine ⟨g, off, cap, rfl, .cptr _ g _ (us i) (fun j hj => ?_) (fun j hj => hr i hl j hj)⟩
    rw [hsz i hl] at hj ⊢
    exact hc i hl j hj
theorem indexAtA_sound {t : TypeId} {a b : AV} {v iv : Value} {n : Int} (hv : VR K a v) (hi : ∃ k, iv = .int k n) (hq : indexAtA P t a n = some b) :
    ∃ u, VR K b u ∧ ∀ w' : World, (Instr.indexAt t v iv).run P w' = .ok u w' := by
  obtain ⟨k, rfl⟩ := hi
  unfold indexAtA at hq
  split at hq
  · rename_i e hu
    split at hq
    · rename_i es hes
      split at hq
      · rename_i h0
        split at hq
        · rename_i c hc
          split at hq
          · rename_i hs
            cases hq
            obtain ⟨g, off, cap, rfl, hvr⟩ := row_at (rowsOf_sound hv hes) hc
            refine ⟨_, hvr, fun w' => ?_⟩
            have hl : n.toNat < es.length := by
              by_cases hh : n.toNat < es.length
              · exact hh
              · rw [List.getElem?_eq_none (by omega)] at hc; cases hc
            have hlt : n < (es.length : Int) := by omega
            simp [Instr.indexAt, asIntOf, run_underlying hu, h0, hlt, szA_run hs, Addr.add_lit]
          · cases hq
        · cases hq
      · cases hq
    · cases hq
  · rename_i m e hu
    split at hq
    · rename_i s hs
      split at hq
      · rename_i hin
        obtain ⟨g, off, rfl, hvr⟩ := addA_sound hv hq
        refine ⟨_, hvr, fun w' => ?_⟩
        simp [Instr.indexAt, asIntOf, run_underlying hu, Instr.sureAddr, hin.1, hin.2, szA_run hs, Addr.add_lit]
      · cases hq
    · cases hq
  · cases hq
theorem indexA_sound {t : TypeId} {a i b : AV} {v iv : Value} (hv : VR K a v) (hi : VR K i iv) (hq : indexA P t a i = some b) :
    ∃ u, VR K b u ∧ ∀ w' : World, (Instr.index t v iv).run P w' = .ok u w' := by
  unfold indexA at hq
  split at hq
  · rename_i l
    split at hq
    · rename_i n e k hu hk
      split at hq
      · rename_i s hs
        split at hq
        · rename_i hin
          cases hv with
          | agg _ cs hl hh =>
            obtain ⟨kk, rfl⟩ := intV_sound hi hk
            obtain ⟨u, hvu, hr⟩ := partA_sound (P := P) ⟨hl, hh⟩ hq
            refine ⟨u, hvu, fun w' => ?_⟩
            simp [Instr.index, asIntOf, run_underlying hu, hin.1, hin.2, szA_run hs, hr w']
        · cases hq
      · cases hq
    · cases hq
  · split at hq
    · rename_i x y hx hy
      split at hq
      · rename_i u hp
        have e1 := val_eq hv hx
        have e2 := val_eq hi hy
        subst e1
        subst e2
        exact ⟨u, ofVal_sound hq, pureRun_run hp⟩
      · cases hq
    · cases hq
theorem nilEq_sound {t : TypeId} {u v : AV} {p q : Value} (hu : VR K u p) (hv : VR K v q) (hn : nilEqA P t u v = true) (d : Nat) (w' : World) :
    (Op.equalIn (d + 1) t p q).run P w' = .ok false w' ∧ (∀ b x y, (eqGuard b t x y p q).run P w' = .ok () w') ∧ (binOp .eql t p q = do pure (.bool (← Op.equal t p q))) ∧ (binOp .neq t p q = do pure (.bool (!(← Op.equal t p q)))) := by
  unfold nilEqA at hn
  split at hn
  · rename_i e i o hut
    cases hu
    cases hv with
    | pv hp =>
      cases hp
      exact ⟨by simp [Op.equalIn, run_underlying hut], fun b x y => by cases b <;> simp [eqGuard], rfl, rfl⟩
  · rename_i e cs hut
    cases hu
    cases hv with
    | pv hp =>
      cases hp
      exact ⟨by simp [Op.equalIn, run_underlying hut], fun b x y => by cases b <;> simp [eqGuard], rfl, rfl⟩
  · rename_i a1 a2 a3 f caps hut
    cases hu
    cases hv with
    | pv hp =>
      cases hp
      exact ⟨by simp [Op.equalIn, run_underlying hut], fun b x y => by cases b <;> simp [eqGuard], rfl, rfl⟩
  · rename_i e tt es hut
    cases hu
    cases hv with
    | pv hp =>
      cases hp
      exact ⟨by simp [Op.equalIn, run_underlying hut], fun b x y => by cases b <;> simp [eqGuard], rfl, rfl⟩
  · rename_i e r0 rs hut
    cases hu with
    | pv hp1 =>
      cases hp1 with
      | rows _ a cap g off sz us ha _ _ _ _ =>
        rw [ha (by simp)]
        cases hv with
        | pv hp =>
          cases hp
          exact ⟨by simp [Op.equalIn, run_underlying hut], fun b x y => by cases b <;> simp [eqGuard], rfl, rfl⟩
  · cases hn
theorem equal_eq (t : TypeId) (p q : Value) : Op.equal t p q = Op.equalIn (9999 + 1) t p q := rfl
theorem opq_ne {ne : List ByteArray} {s y : ByteArray} (hne : ∀ x, x ∈ ne → s.data.toList ≠ x.data.toList) (h : ne.any (eqS y) = true) : s.toList ≠ y.toList := by
  rw [List.any_eq_true] at h
  obtain ⟨x, hx, he⟩ := h
  have := (eqL_iff _ _).1 he
  rw [ByteArray.toList_eq, ByteArray.toList_eq, this]
  exact hne x hx
theorem fastA_sound {b : BinOp} {t : TypeId} {x y : Operand} {p q : Value} {r : Bool} (hq : fastA b p q = some r) (w' : World) : (do eqGuard b t x y p q; binOp b t p q : Sem Value).run P w' = .ok (.bool r) w' := by
  unfold fastA at hq
  split at hq
  · rename_i s s'
    have h1 := eqS_eq s s'
    split at hq
    · cases hq
      simp only [Sem.run_bind, binOp, Op.stringOp, h1]
      simp [eqGuard]
    · cases hq
      simp only [Sem.run_bind, binOp, Op.stringOp, h1]
      simp [eqGuard]
    · cases hq
  · cases hq
theorem symA_sound {b : BinOp} {t : TypeId} {x y : Operand} {u v : AV} {p q : Value} {r : Bool} (hu : VR K u p) (hv : VR K v q) (hq : symA b u v = some r) (w' : World) :
    (do eqGuard b t x y p q; binOp b t p q : Sem Value).run P w' = .ok (.bool r) w' := by
  unfold symA at hq
  split at hq
  · split at hq
    · rename_i he
      cases hq
      cases hu with
      | pv hp =>
        cases hp with
        | opq ne lo hi s hne _ _ =>
          have e := val_eq hv rfl
          subst e
          have h1 := opq_ne hne he
          simp [eqGuard, binOp, Op.stringOp, h1]
    · cases hq
  · split at hq
    · rename_i he
      cases hq
      cases hu with
      | pv hp =>
        cases hp with
        | opq ne lo hi s hne _ _ =>
          have e := val_eq hv rfl
          subst e
          have h1 := opq_ne hne he
          simp [eqGuard, binOp, Op.stringOp, h1]
    · cases hq
  · split at hq
    · rename_i he
      cases hq
      cases hv with
      | pv hp =>
        cases hp with
        | opq ne lo hi s hne _ _ =>
          have e := val_eq hu rfl
          subst e
          have h1 := opq_ne hne he
          simp [eqGuard, binOp, Op.stringOp, Ne.symm h1]
    · cases hq
  · split at hq
    · rename_i he
      cases hq
      cases hv with
      | pv hp =>
        cases hp with
        | opq ne lo hi s hne _ _ =>
          have e := val_eq hu rfl
          subst e
          have h1 := opq_ne hne he
          simp [eqGuard, binOp, Op.stringOp, Ne.symm h1]
    · cases hq
  · cases hu with
    | pv hp =>
      cases hp with
      | rng lo hi n hlo hhi =>
        have e := val_eq hv rfl
        subst e
        split at hq
        · cases hq
          have : decide (_ < n) = true := decide_eq_true (Int.lt_of_lt_of_le ‹_› hlo)
          simp [eqGuard, binOp, Op.intCmp]
          omega
        · split at hq
          · cases hq
            simp [eqGuard, binOp, Op.intCmp]
            omega
          · cases hq
  · cases hq
theorem binA_sound {b : BinOp} {t : TypeId} {x y : Operand} {u v r : AV} {p q : Value} (hu : VR K u p) (hv : VR K v q) (hq : binA P b t x y u v = some r) :
    ∃ z, VR K r z ∧ ∀ w' : World, (do eqGuard b t x y p q; binOp b t p q : Sem Value).run P w' = .ok z w' := by
  unfold binA at hq
  split at hq
  · rename_i a c ha hc
    have e1 := val_eq hu ha
    have e2 := val_eq hv hc
    subst e1
    subst e2
    split at hq
    · rename_i r hr
      cases hq
      exact ⟨_, .pv (.lit _ rfl), fastA_sound hr⟩
    · split at hq
      · rename_i z hz
        exact ⟨z, ofVal_sound hq, pureRun_run hz⟩
      · cases hq
  · split at hq
    · rename_i hn
      split at hq
      · cases hq
        refine ⟨.bool false, .pv (.lit _ rfl), fun w' => ?_⟩
        obtain ⟨h1, h2, h3, h4⟩ := nilEq_sound hu hv hn 9999 w'
        rw [← equal_eq] at h1
        rw [h3]
        simp only [Sem.run_bind, h2, Result.andThen_ok, h1, Sem.run_pure]
      · cases hq
        refine ⟨.bool true, .pv (.lit _ rfl), fun w' => ?_⟩
        obtain ⟨h1, h2, h3, h4⟩ := nilEq_sound hu hv hn 9999 w'
        rw [← equal_eq] at h1
        rw [h4]
        simp only [Sem.run_bind, h2, Result.andThen_ok, h1, Sem.run_pure, Bool.not_false]
      · cases hq
    · split at hq
      · rename_i r hr
        cases hq
        exact ⟨_, .pv (.lit _ rfl), symA_sound hu hv hr⟩
      · cases hq
end
end Go.Proofs.YtjpjcjnacnlhdaaGreat
