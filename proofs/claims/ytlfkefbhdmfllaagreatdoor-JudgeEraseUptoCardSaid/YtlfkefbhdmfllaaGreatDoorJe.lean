/- How much is counted of a typing: there is an answer. -/
import Derived.Test.YtlfkefbhdmfllaaGreatDoorJs
namespace Go.Proofs.YtlfkefbhdmfllaaGreatDoor
open Go.RowKit
set_option linter.unusedSimpArgs false
set_option linter.unusedVariables false

/-- A loop with a number that is not looked at. -/
theorem ev_ex {α : Type} (l : List α) (q : Nat → Int → Q) (G : Rs → Prop) (hl : l.length ≤ maxN)
    (step : ∀ (i j : Nat) a x, IntKind.i64.wrap ((i : Int) + 1) = (j : Int) → l[i]? = some x → (i : Int) < (l.length : Int) → x ∈ l → (∃ r, body PG EE TT ev (q i a) = .ok r ∧ G r) ∨ ∃ a', body PG EE TT ev (q i a) = passK (ev (q j a')))
    (done : ∀ a, ∃ r, body PG EE TT ev (q l.length a) = .ok r ∧ G r) (a : Int) : ∃ r, ev (q 0 a) = some r ∧ G r := by
  have key : ∀ (m i : Nat) (a : Int), i + m = l.length → ∃ r, ev (q i a) = some r ∧ G r := by
    intro m
    induction m with
    | zero =>
      intro i a hm
      rw [Nat.add_zero] at hm
      subst hm
      obtain ⟨r, hr, hg⟩ := done a
      exact ⟨r, Evl.of hr, hg⟩
    | succ m ih =>
      intro i a hm
      have hlt : i < l.length := by omega
      rcases step i (i + 1) a _ (wrap_lt hlt hl) (List.getElem?_eq_getElem hlt) (by omega) (List.getElem_mem hlt) with ⟨r, hr, hg⟩ | ⟨a', ha⟩
      · exact ⟨r, Evl.of hr, hg⟩
      · obtain ⟨r, hr, hg⟩ := ih (i + 1) a' (by omega)
        exact ⟨r, Evl.of (by rw [ha, hr]; rfl), hg⟩
  exact key l.length 0 a (by omega)
def CntT (t : Ty) : Prop := ∀ m : Int, ∃ c : Int, ev (q123 (iv t.kind) (sv t.name) (iv t.n) (tys t.kids) (iv m)) = some (0, [iv c])
theorem cnt_ty {t : Ty} (h : t.Ok) : CntT t := by
  induction h with
  | mk k s n ks hl hk ih =>
    intro m
    have lp := ev_ex ks (fun i a => q123b0a (iv (i : Int)) (iv a) (iv m) (iv k) (sv s) (iv n) (tys ks)) (fun r => ∃ c : Int, r = (0, [iv k, sv s, iv n, tys ks, iv c])) hl
      (fun i j a x e0 hx hi hm => by
        show (∃ r, body PG EE TT ev (q123b0a (iv (i : Int)) (iv a) (iv m) (iv k) (sv s) (iv n) (tys ks)) = .ok r ∧ _) ∨ ∃ a', body PG EE TT ev (q123b0a (iv (i : Int)) (iv a) (iv m) (iv k) (sv s) (iv n) (tys ks)) = passK (ev (q123b0a (iv (j : Int)) (iv a') (iv m) (iv k) (sv s) (iv n) (tys ks)))
        rw [h123b0a, g123b0a]
        by_cases h1 : a < m
        · obtain ⟨c, hc⟩ := ih x hm (IntKind.i64.wrap (m - a))
          refine .inr ⟨IntKind.i64.wrap (a + c), ?_⟩
          simp [hi, h1, idxK_tys hx, hc, e0]
        · refine .inl ⟨_, ?_, a, rfl⟩
          simp [hi, h1])
      (fun a => ⟨_, by
        show body PG EE TT ev (q123b0a (iv (ks.length : Int)) (iv a) (iv m) (iv k) (sv s) (iv n) (tys ks)) = .ok (0, [iv k, sv s, iv n, tys ks, iv a])
        rw [h123b0a, g123b0a]
        simp, a, rfl⟩) 1
    obtain ⟨_, hr, c, rfl⟩ := lp
    have e : ev (q123b0a (iv 0) (iv 1) (iv m) (iv k) (sv s) (iv n) (tys ks)) = some (0, [iv k, sv s, iv n, tys ks, iv c]) := hr
    by_cases h1 : k = 1
    · by_cases h2 : 0 < ks.length
      · exact ⟨m, Evl.of (by rw [h123, g123]; simp [Ty.kind, Ty.name, Ty.n, Ty.kids, h1, h2])⟩
      · by_cases h3 : n = 0
        · exact ⟨c, Evl.of (by rw [h123, g123]; subst h1; subst h3; simp only [Ty.kind, Ty.name, Ty.n, Ty.kids]; simp [h2, e])⟩
        · exact ⟨m, Evl.of (by rw [h123, g123]; simp [Ty.kind, Ty.name, Ty.n, Ty.kids, h1, h2, h3])⟩
    · exact ⟨c, Evl.of (by rw [h123, g123]; simp [Ty.kind, Ty.name, Ty.n, Ty.kids, h1, e])⟩
theorem small_ty {t : Ty} (h : t.Ok) (m : Int) : ∃ b : Bool, ev (q67 (iv t.kind) (sv t.name) (iv t.n) (tys t.kids) (iv m)) = some (0, [bv b]) := by
  obtain ⟨c, hc⟩ := cnt_ty h (IntKind.i64.wrap (m + 1))
  exact ⟨decide (c ≤ m), Evl.of (by rw [h67, g67]; simp [hc]; cases decide (c ≤ m) <;> rfl)⟩
theorem types_ex (l : List Ty) (hl : l.length ≤ maxN) (h : ∀ x ∈ l, x.Ok) : ∃ c : Int, ev (q27 (tys l)) = some (0, [iv c]) := by
  have lp := ev_ex l (fun i a => q27b0a (iv (i : Int)) (iv (l.length : Int)) (tys l) (iv a)) (fun r => ∃ c : Int, r = (0, [iv c]) ∨ r = (1, [iv c])) hl
    (fun i j a x e0 hx hi hm => by
      show (∃ r, body PG EE TT ev (q27b0a (iv (i : Int)) (iv (l.length : Int)) (tys l) (iv a)) = .ok r ∧ _) ∨ ∃ a', body PG EE TT ev (q27b0a (iv (i : Int)) (iv (l.length : Int)) (tys l) (iv a)) = passK (ev (q27b0a (iv (j : Int)) (iv (l.length : Int)) (tys l) (iv a')))
      rw [h27b0a, g27b0a]
      obtain ⟨b, hb⟩ := small_ty (h x hm) 60
      cases b with
      | true =>
        refine .inr ⟨IntKind.i64.wrap (a + 1), ?_⟩
        simp [hi, idxK_tys hx, hb, e0]
      | false =>
        refine .inl ⟨(0, [iv 10000]), ?_, 10000, .inl rfl⟩
        simp [hi, idxK_tys hx, hb])
    (fun a => ⟨(1, [iv a]), by
      show body PG EE TT ev (q27b0a (iv (l.length : Int)) (iv (l.length : Int)) (tys l) (iv a)) = .ok (1, [iv a])
      rw [h27b0a, g27b0a]
      simp, a, .inr rfl⟩) 0
  obtain ⟨r, hr, c, hc⟩ := lp
  refine ⟨c, Evl.of ?_⟩
  rw [h27, g27]
  have e : ev (q27b0a (iv 0) (iv (l.length : Int)) (tys l) (iv 0)) = some r := hr
  rcases hc with rfl | rfl <;> simp [e]
theorem preds_ex (l : List Pd) (hl : l.length ≤ maxN) (h : ∀ x ∈ l, x.t.Ok) : ∃ c : Int, ev (q28 (pds l)) = some (0, [iv c]) := by
  have lp := ev_ex l (fun i a => q28b0a (iv (i : Int)) (iv (l.length : Int)) (pds l) (iv a)) (fun r => ∃ c : Int, r = (0, [iv c])) hl
    (fun i j a x e0 hx hi hm => by
      show (∃ r, body PG EE TT ev (q28b0a (iv (i : Int)) (iv (l.length : Int)) (pds l) (iv a)) = .ok r ∧ _) ∨ ∃ a', body PG EE TT ev (q28b0a (iv (i : Int)) (iv (l.length : Int)) (pds l) (iv a)) = passK (ev (q28b0a (iv (j : Int)) (iv (l.length : Int)) (pds l) (iv a')))
      rw [h28b0a, g28b0a]
      obtain ⟨c, hc⟩ := types_ex [x.t] (by simp [maxN]) (fun y hy => by rw [List.mem_singleton] at hy; subst hy; exact h x hm)
      have hc' : ev (q27 (.rows [[iv x.t.kind, sv x.t.name, iv x.t.n, tys x.t.kids]])) = some (0, [iv c]) := by
        have := hc
        rw [tys, List.map_cons, List.map_nil, Ty.cells_eq] at this
        exact this
      refine .inr ⟨IntKind.i64.wrap (a + c), ?_⟩
      simp [hi, idxK_pds hx, hc', e0])
    (fun a => ⟨(0, [iv a]), by
      show body PG EE TT ev (q28b0a (iv (l.length : Int)) (iv (l.length : Int)) (pds l) (iv a)) = .ok (0, [iv a])
      rw [h28b0a, g28b0a]
      simp, a, rfl⟩) 0
  obtain ⟨r, hr, c, rfl⟩ := lp
  have e : ev (q28b0a (iv 0) (iv (l.length : Int)) (pds l) (iv 0)) = some (0, [iv c]) := hr
  exact ⟨c, Evl.of (by rw [h28, g28]; simp [e])⟩
end Go.Proofs.YtlfkefbhdmfllaaGreatDoor
