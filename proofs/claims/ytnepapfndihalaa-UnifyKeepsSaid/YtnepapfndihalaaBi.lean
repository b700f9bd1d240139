/- Joined texts. -/
import Derived.Test.YtnepapfndihalaaBh
set_option linter.unusedVariables false
set_option linter.unusedSimpArgs false
set_option linter.unusedSectionVars false
namespace Go.Proofs.Ytnepapfndihalaa
open Go.RowKit
theorem kids_len {g : EqSt → Ty → Ty → Option (Bool × EqSt)} (hg : ∀ q x y r q', g q x y = some (r, q') → q'.L = q.L ∨ q.L.length < q'.L.length) : ∀ (l m : List Ty) (q : EqSt) (r : Bool) (q' : EqSt), oneKids g l m q = some (r, q') → q'.L = q.L ∨ q.L.length < q'.L.length
  | [], _, q, r, q', h => by simp [oneKids] at h; exact .inl (by rw [h.2])
  | _ :: _, [], q, r, q', h => by simp [oneKids] at h; exact .inl (by rw [h.2])
  | x :: l, y :: m, q, r, q', h => by
    rw [oneKids] at h
    cases e : g q x y with
    | none => rw [e] at h; cases h
    | some z =>
      obtain ⟨r0, q0⟩ := z
      have h0 := hg _ _ _ _ _ e
      rw [e] at h
      cases r0 with
      | false => cases h; exact h0
      | true =>
        have h1 := kids_len hg l m q0 r q' h
        rcases h0 with h0 | h0
        · rw [← h0]; exact h1
        · rcases h1 with h1 | h1
          · right; rw [h1]; exact h0
          · right; omega
theorem one_len : ∀ (f : Nat) (q : EqSt) (x y : Ty) (r : Bool) (q' : EqSt), oneF f q x y = some (r, q') → q'.L = q.L ∨ q.L.length < q'.L.length
  | 0, q, x, y, r, q', h => by cases h
  | f + 1, q, x, y, r, q', h => by
    rw [oneF] at h
    split at h
    · cases h; exact .inl rfl
    split at h
    · cases h; exact .inl rfl
    split at h
    · cases h; exact .inl rfl
    split at h
    · split at h
      · cases h; exact .inl rfl
      · split at h
        · cases h; right; simp [putL_len]
        · cases h
    split at h
    · exact one_len f _ _ _ _ _ h
    split at h
    · cases h; exact .inl rfl
    · exact kids_len (one_len f) _ _ _ _ _ h
theorem one_keep {f : Nat} {q q' : EqSt} {x y : Ty} {r : Bool} (h : oneF f q x y = some (r, q')) (hn : q.L ≠ []) : q'.L ≠ [] := by
  rcases one_len f q x y r q' h with e | e
  · rw [e]; exact hn
  · intro h0; rw [h0] at e; simp at e
/-- What One gives, from no equations; from some. -/
def oneA (r : Bool) (q : EqSt) : Nat × List PV := if q.L = [] then (0, [nS, bv q.o, bv r]) else (1, [bv q.o, sbs q.L, bv r])
def oneD (n : Nat) (r : Bool) (q : EqSt) : Nat × List PV := (if q.L.length = n then 0 else 1, [bv q.o, sbs q.L, bv r])
def OneV (U : List Int) (C f : Nat) : Prop := ∀ (L : Bd) (x y : Ty) (r : Bool) (q : EqSt), QOk U C L → GdT U x → GdT U y → oneF f ⟨L, false⟩ x y = some (r, q) →
  (L = [] → ev (q14b (iv x.kind) (sv x.name) (iv x.n) (tys x.kids) (iv y.kind) (sv y.name) (iv y.n) (tys y.kids)) = some (oneA r q)) ∧
  (L ≠ [] → ev (q14d (iv x.kind) (sv x.name) (iv x.n) (tys x.kids) (iv y.kind) (sv y.name) (iv y.n) (tys y.kids) (sbs L)) = some (oneD L.length r q)) ∧
  (r = true → q.o = true ∨ QOk U C q.L)
theorem over_a (A B C D E F G H : PV) : ev (q14a A B C D E F G H) = some (0, [nS, bt, bt]) := Evl.of (by rw [h14a, g14a]; simp)
theorem over_c (A B C D E F G H L : PV) : ev (q14c A B C D E F G H L) = some (0, [bt, L, bt]) := Evl.of (by rw [h14c, g14c]; simp)
section
variable (A B C1 E F G : PV)
/-- The loop over the parts, from no equations. -/
def kA (k1 k2 : List Ty) (r : Bool) (q : EqSt) : Nat × List PV := match r with
  | false => if q.L = [] then (0, [A, B, C1, tys k1, nS, bv q.o, E, F, G, tys k2, bf]) else (1, [A, B, C1, tys k1, bv q.o, E, F, G, tys k2, sbs q.L, bf])
  | true => if q.L = [] then (2, [A, B, C1, tys k1, nS, bv q.o, E, F, G, tys k2]) else (3, [A, B, C1, tys k1, bv q.o, E, F, G, tys k2, sbs q.L])
def kqA (k1 k2 : List Ty) (i : PV) (q : EqSt) : Q := if q.L = [] then (if q.o = true then q14bb0b i A B C1 (tys k1) E F G (tys k2) else q14bb0a i A B C1 (tys k1) E F G (tys k2)) else (if q.o = true then q14bb0c i A B C1 (tys k1) E F G (tys k2) (sbs q.L) else q14bb0d i A B C1 (tys k1) E F G (tys k2) (sbs q.L))
theorem lt_of_drop {α : Type} {l : List α} {i : Nat} {x : α} {m : List α} (h : l.drop i = x :: m) : i < l.length := by
  have := congrArg List.length h
  simp at this
  omega
theorem kids_va {U : List Int} {C f : Nat} (hV : OneV U C f) (k1 k2 : List Ty) (hlen : k1.length = k2.length) (hb : k1.length ≤ 1000000) : ∀ (u v : List Ty) (i : Nat) (q q' : EqSt) (r : Bool), k1.drop i = u → k2.drop i = v → (∀ t ∈ u, GdT U t) → (∀ t ∈ v, GdT U t) → (q.o = true ∨ QOk U C q.L) → oneKids (oneF f) u v q = some (r, q') →
    ev (kqA A B C1 E F G k1 k2 (iv (i : Int)) q) = some (kA A B C1 E F G k1 k2 r q')
  | [], v, i, q, q', r, hd, hd2, _, _, hq, h => by
    simp [oneKids] at h
    obtain ⟨rfl, rfl⟩ := h
    have hi := drop_nil hd
    unfold kqA kA
    by_cases hL : q.L = []
    · rw [if_pos hL]
      cases ho : q.o with
      | true => exact Evl.of (by rw [if_pos rfl, h14bb0b, g14bb0b]; simp [lenK_tys, hi, hL, ho])
      | false => exact Evl.of (by rw [if_neg (by simp), h14bb0a, g14bb0a]; simp [lenK_tys, hi, hL, ho])
    · rw [if_neg hL]
      cases ho : q.o with
      | true => exact Evl.of (by rw [if_pos rfl, h14bb0c, g14bb0c]; simp [lenK_tys, hi, hL, ho])
      | false => exact Evl.of (by rw [if_neg (by simp), h14bb0d, g14bb0d]; simp [lenK_tys, hi, hL, ho])
  | x :: u, v, i, q, q', r, hd, hd2, gu, gv, hq, h => by
    obtain ⟨hx, hi, hd'⟩ := drop_cons hd
    have hlt := lt_of_drop hd
    cases v with
    | nil =>
      have := congrArg List.length hd2
      simp at this
      omega
    | cons y v =>
      obtain ⟨hy, hi2, hd2'⟩ := drop_cons hd2
      have e0 := wrapI (i := i) (by omega)
      rw [oneKids] at h
      cases e : oneF f q x y with
      | none => rw [e] at h; cases h
      | some z =>
        obtain ⟨r0, q0⟩ := z
        rw [e] at h
        have hkeep := fun hn => one_keep e hn
        cases ho : q.o with
        | true =>
          obtain ⟨rfl, rfl⟩ := one_over ho e
          simp only at h
          have ih := kids_va hV k1 k2 hlen hb u v (i + 1) q0 q' r hd' hd2' (fun t ht => gu t (List.mem_cons_of_mem _ ht)) (fun t ht => gv t (List.mem_cons_of_mem _ ht)) (.inl ho) h
          rw [c1k] at ih
          unfold kqA at ih ⊢
          simp only [ho, if_true] at ih ⊢
          by_cases hL : q0.L = []
          · rw [if_pos hL] at ih ⊢
            refine Evl.of ?_
            rw [h14bb0b, g14bb0b]
            simp [lenK_tys, hi, idxK_tys hx, idxK_tys hy, over_a, e0, ih]
          · rw [if_neg hL] at ih ⊢
            refine Evl.of ?_
            rw [h14bb0c, g14bb0c]
            simp [lenK_tys, hi, idxK_tys hx, idxK_tys hy, over_c, e0, ih]
        | false =>
          have hQ := hq.resolve_left (by rw [ho]; simp)
          have hqe : q = ⟨q.L, false⟩ := by cases q; simp only at ho; rw [ho]
          rw [hqe] at e
          obtain ⟨v1, v2, v3⟩ := hV q.L x y r0 q0 hQ (gu x List.mem_cons_self) (gv y List.mem_cons_self) e
          obtain ⟨L0, o0⟩ := q0
          have hs : ev (kqA A B C1 E F G k1 k2 (iv (i : Int)) q) = some (match r0 with
              | false => kA A B C1 E F G k1 k2 false ⟨L0, o0⟩
              | true => kA A B C1 E F G k1 k2 r q') := by
            have ih := fun (hr : r0 = true) => by
              subst hr
              simp only at h
              exact kids_va hV k1 k2 hlen hb u v (i + 1) ⟨L0, o0⟩ q' r hd' hd2' (fun t ht => gu t (List.mem_cons_of_mem _ ht)) (fun t ht => gv t (List.mem_cons_of_mem _ ht)) (v3 rfl) h
            rw [c1k] at ih
            unfold kqA at ih ⊢
            simp only [ho]
            simp only at ih hkeep
            by_cases hL : q.L = []
            · rw [if_pos hL, if_neg (by simp)]
              have v1 := v1 hL
              simp only [oneA] at v1
              by_cases hL0 : L0 = []
              · rw [if_pos hL0] at v1
                cases r0 with
                | false => cases o0 <;> (refine Evl.of ?_; rw [h14bb0a, g14bb0a]; simp [lenK_tys, hi, idxK_tys hx, idxK_tys hy, v1, e0, kA, hL0])
                | true =>
                  have ih := ih rfl
                  rw [if_pos hL0] at ih
                  cases o0 with
                  | true => rw [if_pos rfl] at ih; refine Evl.of ?_; rw [h14bb0a, g14bb0a]; simp [lenK_tys, hi, idxK_tys hx, idxK_tys hy, v1, e0, ih]
                  | false => rw [if_neg (by simp)] at ih; refine Evl.of ?_; rw [h14bb0a, g14bb0a]; simp [lenK_tys, hi, idxK_tys hx, idxK_tys hy, v1, e0, ih]
              · rw [if_neg hL0] at v1
                cases r0 with
                | false => cases o0 <;> (refine Evl.of ?_; rw [h14bb0a, g14bb0a]; simp [lenK_tys, hi, idxK_tys hx, idxK_tys hy, v1, e0, kA, hL0])
                | true =>
                  have ih := ih rfl
                  rw [if_neg hL0] at ih
                  cases o0 with
                  | true => rw [if_pos rfl] at ih; refine Evl.of ?_; rw [h14bb0a, g14bb0a]; simp [lenK_tys, hi, idxK_tys hx, idxK_tys hy, v1, e0, ih]
                  | false => rw [if_neg (by simp)] at ih; refine Evl.of ?_; rw [h14bb0a, g14bb0a]; simp [lenK_tys, hi, idxK_tys hx, idxK_tys hy, v1, e0, ih]
            · rw [if_neg hL, if_neg (by simp)]
              have v2 := v2 hL
              have hL0 : L0 ≠ [] := hkeep hL
              simp only [oneD] at v2
              by_cases hn : L0.length = q.L.length
              · have hsame : L0 = q.L := by
                  rcases one_len _ _ _ _ _ _ e with h1 | h1
                  · exact h1
                  · simp only at h1; omega
                rw [if_pos hn, hsame] at v2
                cases r0 with
                | false => cases o0 <;> (refine Evl.of ?_; rw [h14bb0d, g14bb0d]; simp [lenK_tys, hi, idxK_tys hx, idxK_tys hy, v2, e0, kA, hL, hsame])
                | true =>
                  have ih := ih rfl
                  rw [if_neg hL0, hsame] at ih
                  cases o0 with
                  | true => rw [if_pos rfl] at ih; refine Evl.of ?_; rw [h14bb0d, g14bb0d]; simp [lenK_tys, hi, idxK_tys hx, idxK_tys hy, v2, e0, ih]
                  | false => rw [if_neg (by simp)] at ih; refine Evl.of ?_; rw [h14bb0d, g14bb0d]; simp [lenK_tys, hi, idxK_tys hx, idxK_tys hy, v2, e0, ih]
              · rw [if_neg hn] at v2
                cases r0 with
                | false => cases o0 <;> (refine Evl.of ?_; rw [h14bb0d, g14bb0d]; simp [lenK_tys, hi, idxK_tys hx, idxK_tys hy, v2, e0, kA, hL0])
                | true =>
                  have ih := ih rfl
                  rw [if_neg hL0] at ih
                  cases o0 with
                  | true => rw [if_pos rfl] at ih; refine Evl.of ?_; rw [h14bb0d, g14bb0d]; simp [lenK_tys, hi, idxK_tys hx, idxK_tys hy, v2, e0, ih]
                  | false => rw [if_neg (by simp)] at ih; refine Evl.of ?_; rw [h14bb0d, g14bb0d]; simp [lenK_tys, hi, idxK_tys hx, idxK_tys hy, v2, e0, ih]
          cases r0 with
          | false => cases h; exact hs
          | true => exact hs
end
theorem kidsF_len {f : Nat} {l m : List Ty} {q q' : EqSt} {r : Bool} (h : oneKids (oneF f) l m q = some (r, q')) : q'.L = q.L ∨ q.L.length < q'.L.length := kids_len (one_len f) l m q r q' h
section
variable (A B C1 E F G : PV) (n0 : Nat)
/-- The loop over the parts, from some equations. -/
def kD (k1 k2 : List Ty) (r : Bool) (q : EqSt) : Nat × List PV := match r with
  | false => if q.L.length = n0 then (0, [A, B, C1, tys k1, bv q.o, sbs q.L, E, F, G, tys k2, bf]) else (1, [A, B, C1, tys k1, bv q.o, E, F, G, tys k2, sbs q.L, bf])
  | true => if q.L.length = n0 then (2, [A, B, C1, tys k1, bv q.o, sbs q.L, E, F, G, tys k2]) else (3, [A, B, C1, tys k1, bv q.o, E, F, G, tys k2, sbs q.L])
def kqD (k1 k2 : List Ty) (i : PV) (q : EqSt) : Q := if q.L.length = n0 then (if q.o = true then q14db0b i A B C1 (tys k1) (sbs q.L) E F G (tys k2) else q14db0a i A B C1 (tys k1) (sbs q.L) E F G (tys k2)) else (if q.o = true then q14db0c i A B C1 (tys k1) E F G (tys k2) (sbs q.L) else q14db0d i A B C1 (tys k1) E F G (tys k2) (sbs q.L))
theorem kids_vd (hn0 : 0 < n0) {U : List Int} {C f : Nat} (hV : OneV U C f) (k1 k2 : List Ty) (hlen : k1.length = k2.length) (hb : k1.length ≤ 1000000) : ∀ (u v : List Ty) (i : Nat) (q q' : EqSt) (r : Bool), k1.drop i = u → k2.drop i = v → (∀ t ∈ u, GdT U t) → (∀ t ∈ v, GdT U t) → n0 ≤ q.L.length → (q.o = true ∨ QOk U C q.L) → oneKids (oneF f) u v q = some (r, q') →
    ev (kqD A B C1 E F G n0 k1 k2 (iv (i : Int)) q) = some (kD A B C1 E F G n0 k1 k2 r q')
  | [], v, i, q, q', r, hd, hd2, _, _, hge, hq, h => by
    simp [oneKids] at h
    obtain ⟨rfl, rfl⟩ := h
    have hi := drop_nil hd
    obtain ⟨L, o⟩ := q
    unfold kqD kD
    simp only
    by_cases hL : L.length = n0
    · rw [if_pos hL, if_pos hL]
      cases o with
      | true => exact Evl.of (by rw [if_pos rfl, h14db0b, g14db0b]; simp [lenK_tys, hi])
      | false => exact Evl.of (by rw [if_neg (by simp), h14db0a, g14db0a]; simp [lenK_tys, hi])
    · rw [if_neg hL, if_neg hL]
      cases o with
      | true => exact Evl.of (by rw [if_pos rfl, h14db0c, g14db0c]; simp [lenK_tys, hi])
      | false => exact Evl.of (by rw [if_neg (by simp), h14db0d, g14db0d]; simp [lenK_tys, hi])
  | x :: u, v, i, q, q', r, hd, hd2, gu, gv, hge, hq, h => by
    obtain ⟨hx, hi, hd'⟩ := drop_cons hd
    have hlt := lt_of_drop hd
    cases v with
    | nil =>
      have := congrArg List.length hd2
      simp at this
      omega
    | cons y v =>
      obtain ⟨hy, hi2, hd2'⟩ := drop_cons hd2
      have e0 := wrapI (i := i) (by omega)
      rw [oneKids] at h
      cases e : oneF f q x y with
      | none => rw [e] at h; cases h
      | some z =>
        obtain ⟨r0, q0⟩ := z
        rw [e] at h
        have hge0 : n0 ≤ q0.L.length := by
          rcases one_len _ _ _ _ _ _ e with h1 | h1
          · rw [h1]; exact hge
          · omega
        obtain ⟨L, o⟩ := q
        cases o with
        | true =>
          obtain ⟨rfl, rfl⟩ := one_over rfl e
          simp only at h
          have ih := kids_vd hn0 hV k1 k2 hlen hb u v (i + 1) ⟨L, true⟩ q' r hd' hd2' (fun t ht => gu t (List.mem_cons_of_mem _ ht)) (fun t ht => gv t (List.mem_cons_of_mem _ ht)) hge (.inl rfl) h
          rw [c1k] at ih
          unfold kqD at ih ⊢
          simp only [if_true] at ih ⊢
          by_cases hL : L.length = n0
          · rw [if_pos hL] at ih ⊢
            refine Evl.of ?_
            rw [h14db0b, g14db0b]
            simp [lenK_tys, hi, idxK_tys hx, idxK_tys hy, over_c, e0, ih]
          · rw [if_neg hL] at ih ⊢
            refine Evl.of ?_
            rw [h14db0c, g14db0c]
            simp [lenK_tys, hi, idxK_tys hx, idxK_tys hy, over_c, e0, ih]
        | false =>
          have hQ : QOk U C L := hq.resolve_left (by simp)
          obtain ⟨v1, v2, v3⟩ := hV L x y r0 q0 hQ (gu x List.mem_cons_self) (gv y List.mem_cons_self) e
          simp only at hge
          have v2 := v2 (by intro h9; rw [h9] at hge; simp at hge; omega)
          have hl := one_len _ _ _ _ _ _ e
          obtain ⟨L0, o0⟩ := q0
          simp only [oneD] at v2 hl hge0
          have hs : ev (kqD A B C1 E F G n0 k1 k2 (iv (i : Int)) ⟨L, false⟩) = some (match r0 with
              | false => kD A B C1 E F G n0 k1 k2 false ⟨L0, o0⟩
              | true => kD A B C1 E F G n0 k1 k2 r q') := by
            have ih := fun (hr : r0 = true) => by
              subst hr
              simp only at h
              exact kids_vd hn0 hV k1 k2 hlen hb u v (i + 1) ⟨L0, o0⟩ q' r hd' hd2' (fun t ht => gu t (List.mem_cons_of_mem _ ht)) (fun t ht => gv t (List.mem_cons_of_mem _ ht)) hge0 (v3 rfl) h
            rw [c1k] at ih
            unfold kqD at ih ⊢
            try simp only at ih
            simp only [Bool.false_eq_true, if_false]
            by_cases hL : L.length = n0
            · rw [if_pos hL]
              by_cases hn : L0.length = L.length
              · have hsame : L0 = L := by
                  rcases hl with h1 | h1
                  · exact h1
                  · omega
                subst hsame
                rw [if_pos rfl] at v2
                cases r0 with
                | false => cases o0 <;> (refine Evl.of ?_; rw [h14db0a, g14db0a]; simp [lenK_tys, hi, idxK_tys hx, idxK_tys hy, v2, e0, kD, hL])
                | true =>
                  have ih := ih rfl
                  rw [if_pos hL] at ih
                  cases o0 with
                  | true => rw [if_pos rfl] at ih; refine Evl.of ?_; rw [h14db0a, g14db0a]; simp [lenK_tys, hi, idxK_tys hx, idxK_tys hy, v2, e0, ih]
                  | false => rw [if_neg (by simp)] at ih; refine Evl.of ?_; rw [h14db0a, g14db0a]; simp [lenK_tys, hi, idxK_tys hx, idxK_tys hy, v2, e0, ih]
              · rw [if_neg hn] at v2
                have hn' : ¬ L0.length = n0 := by omega
                cases r0 with
                | false => cases o0 <;> (refine Evl.of ?_; rw [h14db0a, g14db0a]; simp [lenK_tys, hi, idxK_tys hx, idxK_tys hy, v2, e0, kD, hn'])
                | true =>
                  have ih := ih rfl
                  rw [if_neg hn'] at ih
                  cases o0 with
                  | true => rw [if_pos rfl] at ih; refine Evl.of ?_; rw [h14db0a, g14db0a]; simp [lenK_tys, hi, idxK_tys hx, idxK_tys hy, v2, e0, ih]
                  | false => rw [if_neg (by simp)] at ih; refine Evl.of ?_; rw [h14db0a, g14db0a]; simp [lenK_tys, hi, idxK_tys hx, idxK_tys hy, v2, e0, ih]
            · rw [if_neg hL]
              have hn' : ¬ L0.length = n0 := by
                rcases hl with h1 | h1
                · rw [h1]; exact hL
                · omega
              by_cases hn : L0.length = L.length
              · have hsame : L0 = L := by
                  rcases hl with h1 | h1
                  · exact h1
                  · omega
                subst hsame
                rw [if_pos rfl] at v2
                cases r0 with
                | false => cases o0 <;> (refine Evl.of ?_; rw [h14db0d, g14db0d]; simp [lenK_tys, hi, idxK_tys hx, idxK_tys hy, v2, e0, kD, hn'])
                | true =>
                  have ih := ih rfl
                  rw [if_neg hn'] at ih
                  cases o0 with
                  | true => rw [if_pos rfl] at ih; refine Evl.of ?_; rw [h14db0d, g14db0d]; simp [lenK_tys, hi, idxK_tys hx, idxK_tys hy, v2, e0, ih]
                  | false => rw [if_neg (by simp)] at ih; refine Evl.of ?_; rw [h14db0d, g14db0d]; simp [lenK_tys, hi, idxK_tys hx, idxK_tys hy, v2, e0, ih]
              · rw [if_neg hn] at v2
                cases r0 with
                | false => cases o0 <;> (refine Evl.of ?_; rw [h14db0d, g14db0d]; simp [lenK_tys, hi, idxK_tys hx, idxK_tys hy, v2, e0, kD, hn'])
                | true =>
                  have ih := ih rfl
                  rw [if_neg hn'] at ih
                  cases o0 with
                  | true => rw [if_pos rfl] at ih; refine Evl.of ?_; rw [h14db0d, g14db0d]; simp [lenK_tys, hi, idxK_tys hx, idxK_tys hy, v2, e0, ih]
                  | false => rw [if_neg (by simp)] at ih; refine Evl.of ?_; rw [h14db0d, g14db0d]; simp [lenK_tys, hi, idxK_tys hx, idxK_tys hy, v2, e0, ih]
          cases r0 with
          | false => cases h; exact hs
          | true => exact hs
end
theorem one_oke {U : List Int} {C : Nat} (hC : C ≤ 1000000) {f : Nat} {L : Bd} {x y : Ty} {r : Bool} {q : EqSt} (hQ : QOk U C L) (gx : GdT U x) (gy : GdT U y) (h : oneF f ⟨L, false⟩ x y = some (r, q)) (hr : r = true) : q.o = true ∨ QOk U C q.L := by
  obtain ⟨f', r', q', e, hok⟩ := one_end U C hC (unM U L) L hQ (Nat.le_refl _) x y gx gy
  have h1 := one_up h (Nat.le_max_left f f')
  have h2 := one_up e (Nat.le_max_right f f')
  rw [h1] at h2
  cases h2
  rcases hok hr with h3 | ⟨_, h3, _⟩
  · exact .inl h3
  · exact .inr h3
set_option maxHeartbeats 4000000 in
theorem one_v (U : List Int) (C : Nat) (hC : C ≤ 1000000) : ∀ (f : Nat), OneV U C f := by
  intro f
  induction f with
  | zero => intro L x y r q hQ gx gy h; cases h
  | succ f ih =>
    intro L x y r q hQ gx gy h
    have h3 := one_oke hC hQ gx gy h
    have hlen : L.length ≤ 1000000 := by have := hQ.len; omega
    have gA := hQ.app gx
    have gB := hQ.app gy
    have hax := ap_a L hlen x gx.few
    have hay := ap_a L hlen y gy.few
    have hax0 : L = [] → ev (q16 (.rows []) (iv x.kind) (sv x.name) (iv x.n) (tys x.kids)) = some (0, [iv (apR L x).kind, sv (apR L x).name, iv (apR L x).n, tys (apR L x).kids]) := fun e => by rw [e]; exact ap_r0 x gx.few
    have hay0 : L = [] → ev (q16 (.rows []) (iv y.kind) (sv y.name) (iv y.n) (tys y.kids)) = some (0, [iv (apR L y).kind, sv (apR L y).name, iv (apR L y).n, tys (apR L y).kids]) := fun e => by rw [e]; exact ap_r0 y gy.few
    rw [oneF, if_neg (by simp)] at h
    simp only at h
    generalize apR L x = A at *
    generalize apR L y = B at *
    have tA := too_ev A gA.few
    have tB := too_ev B gB.few
    have sm := same_b A B gA.few gB.few
    have hmw := fun hz => met_w B hz
    have hha := fun hz => hasm_ev B hz A.n
    have hpa := put_a A.n B
    have hpb := put_b L A.n B gB.few hQ.few hlen
    have hih := ih L B A r q hQ gB gA
    have hka := fun e g => @kids_va (iv A.kind) (sv A.name) (iv A.n) (iv B.kind) (sv B.name) (iv B.n) U C f ih A.kids B.kids e gA.few.len A.kids B.kids 0 ⟨L, false⟩ q r rfl rfl (fun t ht => gA.kid ht) (fun t ht => gB.kid ht) (.inr hQ) g
    have hkd := fun e hn g => @kids_vd (iv A.kind) (sv A.name) (iv A.n) (iv B.kind) (sv B.name) (iv B.n) L.length hn U C f ih A.kids B.kids e gA.few.len A.kids B.kids 0 ⟨L, false⟩ q r rfl rfl (fun t ht => gA.kid ht) (fun t ht => gB.kid ht) (Nat.le_refl _) (.inr hQ) g
    generalize A.kind = ak at *
    generalize A.name = an at *
    generalize A.n = ai at *
    generalize A.kids = aks at *
    generalize B.kind = bk at *
    generalize B.name = bn at *
    generalize B.n = bi at *
    generalize B.kids = bks at *
    by_cases c1 : tooB A = true ∨ tooB B = true
    · rw [if_pos c1] at h
      cases h
      refine ⟨fun hL => Evl.of ?_, fun hL => Evl.of ?_, h3⟩
      · rw [h14b, g14b]
        by_cases cA : tooB A = true
        · rw [cA] at tA; simp [hax0 hL, hay0 hL, oneA, hL, tA]
        · rw [too_f cA] at tA; rw [c1.resolve_left cA] at tB; simp [hax0 hL, hay0 hL, oneA, hL, tA, tB]
      · rw [h14d, g14d]
        by_cases cA : tooB A = true
        · rw [cA] at tA; simp [hax, hay, oneD, tA]
        · rw [too_f cA] at tA; rw [c1.resolve_left cA] at tB; simp [hax, hay, oneD, tA, tB]
    rw [if_neg c1] at h
    rw [too_f fun e => c1 (.inl e)] at tA
    rw [too_f fun e => c1 (.inr e)] at tB
    have szB : szF B ≤ 1000000 := by
      have := too_f (t := B) fun e => c1 (.inr e)
      unfold tooB at this
      simp at this
      omega
    by_cases c2 : sameF A B = true
    · rw [if_pos c2] at h
      rw [c2] at sm
      cases h
      refine ⟨fun hL => Evl.of ?_, fun hL => Evl.of ?_, h3⟩
      · rw [h14b, g14b]; simp [hax0 hL, hay0 hL, oneA, hL, tA, tB, sm]
      · rw [h14d, g14d]; simp [hax, hay, oneD, tA, tB, sm]
    rw [if_neg c2] at h
    have c2' : sameF A B = false := by
      cases e : sameF A B with
      | false => rfl
      | true => exact absurd e c2
    rw [c2'] at sm
    by_cases c3 : ak = 2 ∧ (bk ≠ 2 ∨ ai > bi)
    · rw [if_pos c3] at h
      have hm := hmw szB
      have hh := hha szB
      obtain ⟨rfl, c3'⟩ := c3
      by_cases c : hasM ai B = true
      · rw [if_pos c] at h
        rw [c] at hh
        cases h
        refine ⟨fun hL => Evl.of ?_, fun hL => Evl.of ?_, h3⟩
        · rw [h14b, g14b]
          by_cases b2 : bk = 2
          · have c4 := c3'.resolve_left (fun e => e b2)
            subst b2
            simp [hax0 hL, hay0 hL, oneA, hL, tA, tB, sm, c4, hm, hh]
          · simp [hax0 hL, hay0 hL, oneA, hL, tA, tB, sm, b2, hm, hh]
        · rw [h14d, g14d]
          by_cases b2 : bk = 2
          · have c4 := c3'.resolve_left (fun e => e b2)
            subst b2
            simp [hax, hay, oneD, tA, tB, sm, c4, hm, hh]
          · simp [hax, hay, oneD, tA, tB, sm, b2, hm, hh]
      · rw [if_neg c, if_pos hlen] at h
        rw [show hasM ai B = false by cases e : hasM ai B with
          | false => rfl
          | true => exact absurd e c] at hh
        have hpl := putL_len ai B L
        cases h
        refine ⟨fun hL => Evl.of ?_, fun hL => Evl.of ?_, h3⟩
        · have hp0 : putL ai B L = ([], false) := by rw [hL]; rfl
          rw [h14b, g14b]
          by_cases b2 : bk = 2
          · have c4 := c3'.resolve_left (fun e => e b2)
            subst b2
            simp [hax0 hL, hay0 hL, oneA, hp0, tA, tB, sm, c4, hm, hh, hpa]
          · simp [hax0 hL, hay0 hL, oneA, hp0, tA, tB, sm, b2, hm, hh, hpa]
        · rw [h14d, g14d]
          generalize putL ai B L = p at *
          obtain ⟨L1, o1⟩ := p
          simp only at hpb hpl
          by_cases b2 : bk = 2
          · have c4 := c3'.resolve_left (fun e => e b2)
            subst b2
            cases o1 <;> simp [hax, hay, oneD, tA, tB, sm, c4, hm, hh, hpb, hpl]
          · cases o1 <;> simp [hax, hay, oneD, tA, tB, sm, b2, hm, hh, hpb, hpl]
    rw [if_neg c3] at h
    by_cases c4 : bk = 2
    · rw [if_pos c4] at h
      obtain ⟨v1, v2, _⟩ := hih h
      have c3' : ¬ ak = 2 ∨ (ak = 2 ∧ ¬ bi < ai) := by
        by_cases a2 : ak = 2
        · exact .inr ⟨a2, fun e => c3 ⟨a2, .inr e⟩⟩
        · exact .inl a2
      subst c4
      obtain ⟨Lq, oq⟩ := q
      refine ⟨fun hL => Evl.of ?_, fun hL => Evl.of ?_, h3⟩
      · have v1 := v1 hL
        simp only [oneA] at v1 ⊢
        rw [h14b, g14b]
        by_cases hLq : Lq = []
        · rw [if_pos hLq] at v1
          rcases c3' with a2 | ⟨a2, a3⟩
          · cases r <;> cases oq <;> simp [hax0 hL, hay0 hL, tA, tB, sm, a2, v1, hLq]
          · subst a2
            cases r <;> cases oq <;> simp [hax0 hL, hay0 hL, tA, tB, sm, a3, v1, hLq]
        · rw [if_neg hLq] at v1
          rcases c3' with a2 | ⟨a2, a3⟩
          · cases r <;> cases oq <;> simp [hax0 hL, hay0 hL, tA, tB, sm, a2, v1, hLq]
          · subst a2
            cases r <;> cases oq <;> simp [hax0 hL, hay0 hL, tA, tB, sm, a3, v1, hLq]
      · have v2 := v2 hL
        have hl := one_len _ _ _ _ _ _ h
        simp only [oneD] at v2 hl ⊢
        rw [h14d, g14d]
        by_cases hn : Lq.length = L.length
        · have hsame : Lq = L := by
            rcases hl with h1 | h1
            · exact h1
            · omega
          subst hsame
          rw [if_pos rfl] at v2
          rcases c3' with a2 | ⟨a2, a3⟩
          · cases r <;> cases oq <;> simp [hax, hay, tA, tB, sm, a2, v2]
          · subst a2
            cases r <;> cases oq <;> simp [hax, hay, tA, tB, sm, a3, v2]
        · rw [if_neg hn] at v2
          rcases c3' with a2 | ⟨a2, a3⟩
          · cases r <;> cases oq <;> simp [hax, hay, tA, tB, sm, a2, v2, hn]
          · subst a2
            cases r <;> cases oq <;> simp [hax, hay, tA, tB, sm, a3, v2, hn]
    rw [if_neg c4] at h
    by_cases c5 : ak ≠ bk ∨ an ≠ bn ∨ ai ≠ bi ∨ aks.length ≠ bks.length
    · rw [if_pos c5] at h
      cases h
      have a2 : ¬ ak = 2 := fun e => c3 ⟨e, .inl c4⟩
      refine ⟨fun hL => Evl.of ?_, fun hL => Evl.of ?_, h3⟩
      · rw [h14b, g14b]
        by_cases d1 : ak = bk
        · by_cases d2 : an = bn
          · by_cases d3 : ai = bi
            · have d4 : ¬ (aks.length : Int) = bks.length := by
                intro e
                rcases c5 with h | h | h | h
                · exact h d1
                · exact h d2
                · exact h d3
                · exact h (by omega)
              subst d1 d2 d3
              simp [hax0 hL, hay0 hL, oneA, hL, tA, tB, sm, a2, d4, lenK_tys]
            · subst d1 d2
              simp [hax0 hL, hay0 hL, oneA, hL, tA, tB, sm, a2, d3]
          · subst d1
            simp [hax0 hL, hay0 hL, oneA, hL, tA, tB, sm, a2, d2]
        · simp [hax0 hL, hay0 hL, oneA, hL, tA, tB, sm, a2, c4, d1]
      · rw [h14d, g14d]
        by_cases d1 : ak = bk
        · by_cases d2 : an = bn
          · by_cases d3 : ai = bi
            · have d4 : ¬ (aks.length : Int) = bks.length := by
                intro e
                rcases c5 with h | h | h | h
                · exact h d1
                · exact h d2
                · exact h d3
                · exact h (by omega)
              subst d1 d2 d3
              simp [hax, hay, oneD, tA, tB, sm, a2, d4, lenK_tys]
            · subst d1 d2
              simp [hax, hay, oneD, tA, tB, sm, a2, d3]
          · subst d1
            simp [hax, hay, oneD, tA, tB, sm, a2, d2]
        · simp [hax, hay, oneD, tA, tB, sm, a2, c4, d1]
    rw [if_neg c5] at h
    have d1 : ak = bk := Decidable.byContradiction fun e => c5 (.inl e)
    have d2 : an = bn := Decidable.byContradiction fun e => c5 (.inr (.inl e))
    have d3 : ai = bi := Decidable.byContradiction fun e => c5 (.inr (.inr (.inl e)))
    have e4 : aks.length = bks.length := Decidable.byContradiction fun e => c5 (.inr (.inr (.inr e)))
    subst d1 d2 d3
    have hln := one_len
    obtain ⟨Lq, oq⟩ := q
    refine ⟨fun hL => Evl.of ?_, fun hL => Evl.of ?_, h3⟩
    · have hk := hka e4 h
      unfold kqA kA at hk
      rw [if_pos hL, if_neg (by simp)] at hk
      simp only [Int.natCast_zero, Int.ofNat_zero] at hk
      rw [h14b, g14b, oneA]
      by_cases hLq : Lq = []
      · cases r <;> cases oq <;> simp only [hLq, if_true] at hk <;> simp [hax0 hL, hay0 hL, tA, tB, sm, c4, lenK_tys, e4, hk, hLq]
      · cases r <;> cases oq <;> simp only [hLq, if_false] at hk <;> simp [hax0 hL, hay0 hL, tA, tB, sm, c4, lenK_tys, e4, hk, hLq]
    · have hpos : 0 < L.length := List.length_pos_iff.2 hL
      have hk := hkd e4 hpos h
      have hl := kidsF_len h
      unfold kqD kD at hk
      simp only at hl
      rw [if_pos rfl, if_neg (by simp)] at hk
      simp only [Int.natCast_zero, Int.ofNat_zero] at hk
      rw [h14d, g14d, oneD]
      by_cases hn : Lq.length = L.length
      · have hsame : Lq = L := by
          rcases hl with h1 | h1
          · exact h1
          · omega
        subst hsame
        cases r <;> cases oq <;> simp only [if_true] at hk <;> simp [hax, hay, tA, tB, sm, c4, lenK_tys, e4, hk]
      · cases r <;> cases oq <;> simp only [hn, if_false] at hk <;> simp [hax, hay, tA, tB, sm, c4, lenK_tys, e4, hk, hn]
def AppA (s : St) (g : Ty → Int → Int → Option (Ty × Int × Int)) : Prop := ∀ (t u : Ty) (st pa st' pa' : Int), g t st pa = some (u, st', pa') →
  ev (q31a (iv t.kind) (sv t.name) (iv t.n) (tys t.kids) (iv s.fr) (iv st) (sbs s.b) (iv pa)) = some (0, [nS, iv s.fr, iv st', sbs s.b, iv pa', iv u.kind, sv u.name, iv u.n, tys u.kids])
theorem apl_a (s : St) {g : Ty → Int → Int → Option (Ty × Int × Int)} (hg : AppA s g) (l : List Ty) (hb : l.length ≤ 1000000) (A B C D : PV) : ∀ (m : List Ty) (done : List Ty) (r : List Ty) (st pa st' pa' : Int), l.drop done.length = m → appF.appL g m st pa = some (r, st', pa') →
    ev (q31ab0a (iv (done.length : Int)) (iv l.length) (tys l) (.rows (halfR done m.length)) (iv s.fr) (iv st) (sbs s.b) (iv pa) A B C D) =
      some (0, [tys (done ++ r), nS, iv s.fr, iv st', sbs s.b, iv pa', A, B, C, D, iv 0, sv ⟨#[]⟩, iv 0, .lit (.slice none 0 0)])
  | [], done, r, st, pa, st', pa', hd, h => by
    have hi := drop_nil hd
    rw [appF.appL] at h
    cases h
    have he := half_end done
    refine Evl.of ?_
    rw [h31ab0a, g31ab0a]
    simp [hi, he]
  | t :: m, done, r, st, pa, st', pa', hd, h => by
    obtain ⟨a1, a2, a3⟩ := drop_cons hd
    have e0 : IntKind.i64.wrap ((done.length : Int) + 1) = (done.length : Int) + 1 := by rw [IntKind.wrap_i64]; omega
    rw [appF.appL] at h
    cases hx : g t st pa with
    | none => rw [hx] at h; cases h
    | some q =>
      obtain ⟨u, st1, pa1⟩ := q
      rw [hx] at h
      simp only at h
      cases hy : appF.appL g m st1 pa1 with
      | none => rw [hy] at h; cases h
      | some q =>
        obtain ⟨r1, st2, pa2⟩ := q
        rw [hy] at h
        cases h
        have h1 := hg _ _ _ _ _ _ hx
        have ih := apl_a s hg l hb A B C D m (done ++ [u]) r1 st1 pa1 st' pa' (by rw [List.length_append]; exact a3) hy
        have e1 : (((done ++ [u]).length : Nat) : Int) = (done.length : Int) + 1 := by simp
        rw [e1, List.append_assoc, List.cons_append, List.nil_append] at ih
        have hx1 := fun k => idxK_half (d := Res.fail) (k := k) done m.length
        have hx2 := fun k => setK_half (d := Res.fail) (k := k) done m.length u
        refine Evl.of ?_
        rw [h31ab0a, g31ab0a]
        simp [a2, idxK_tys a1, h1, e0, hx1, hx2, ih]
theorem app_a (s : St) : ∀ (f : Nat), AppA s (appF s.b f)
  | 0 => fun t u st pa st' pa' h => by cases h
  | f + 1 => fun t u st pa st' pa' h => by
    have ih := app_a s f
    rw [appF] at h
    cases hh : headF f s.b t with
    | none => rw [hh] at h; cases h
    | some v =>
      rw [hh] at h
      simp only at h
      have h0 := head_a { s with st := st } hh
      have hs := step_a s st
      simp only at h0
      by_cases hp : IntKind.i64.wrap (pa + 1) > 5000
      · rw [if_pos hp] at h
        cases h
        refine Evl.of ?_
        rw [h31a, g31a]
        simp [h0, hp]
      · rw [if_neg hp] at h
        by_cases hm : stepI st ≤ maxS
        · rw [if_pos hm] at h
          by_cases hk : v.kids.length ≤ 1000000
          · rw [if_pos hk] at h
            cases hy : appF.appL (appF s.b f) v.kids (stepI st) (IntKind.i64.wrap (pa + 1)) with
            | none => rw [hy] at h; cases h
            | some q =>
              obtain ⟨r1, st2, pa2⟩ := q
              rw [hy] at h
              cases h
              have h1 := apl_a s ih v.kids hk (iv v.kind) (sv v.name) (iv v.n) (tys v.kids) v.kids [] r1 _ _ _ _ rfl hy
              have h2 := fun k => mkK_tys (d := Res.fail) (k := k) hk
              simp only [List.length_nil, Int.ofNat_zero, Int.natCast_zero, List.nil_append] at h1
              refine Evl.of ?_
              rw [h31a, g31a]
              simp [h0, hp, hs, hm, lenK_tys, h2, h1]
          · rw [if_neg hk] at h; cases h
        · rw [if_neg hm] at h
          cases h
          refine Evl.of ?_
          rw [h31a, g31a]
          simp [h0, hp, hs, hm]
theorem apply_oka (s : St) {f : Nat} {t u : Ty} {st st' : Int} (h : applyF s.b f t st = some (some (u, st'))) :
    ev (q15a (iv t.kind) (sv t.name) (iv t.n) (tys t.kids) (iv s.fr) (iv st) (sbs s.b)) = some (0, [nS, iv s.fr, iv st', sbs s.b, iv u.kind, sv u.name, iv u.n, tys u.kids, iv 0]) := Evl.of (by
  unfold applyF at h
  cases hy : appF s.b f t st 0 with
  | none => rw [hy] at h; cases h
  | some q =>
    obtain ⟨v, st1, pa1⟩ := q
    rw [hy] at h
    simp only at h
    have h1 := app_a s f _ _ _ _ _ _ hy
    split at h
    · cases h
    · rename_i hc
      cases h
      have c1 : ¬ pa1 > 5000 := fun e => hc (.inl e)
      have c2 : ¬ st' > 1048576 := fun e => hc (.inr e)
      rw [h15a, g15a]
      simp [h1, c1, c2])
theorem apply_noa (s : St) {f : Nat} {t : Ty} {st : Int} (h : applyF s.b f t st = some none) :
    ev (q15a (iv t.kind) (sv t.name) (iv t.n) (tys t.kids) (iv s.fr) (iv st) (sbs s.b)) = some (0, [nS, iv s.fr, iv 1048577, sbs s.b, iv 0, sv ⟨#[]⟩, iv 0, .lit (.slice none 0 0), iv 3]) := Evl.of (by
  unfold applyF at h
  cases hy : appF s.b f t st 0 with
  | none => rw [hy] at h; cases h
  | some q =>
    obtain ⟨v, st1, pa1⟩ := q
    rw [hy] at h
    simp only at h
    have h1 := app_a s f _ _ _ _ _ _ hy
    split at h
    · rename_i hc
      rw [h15a, g15a]
      by_cases c1 : pa1 > 5000
      · simp [h1, c1]
      · have c2 : st1 > 1048576 := hc.resolve_left c1
        simp [h1, c1, c2]
    · cases h)
/-- The store and the equations tell one thing. -/
structure Both (U : List Int) (C : Nat) (s : St) (L : Bd) : Prop where
  i : InvS s
  p : PlB s.b
  l : InvL s.b L
  q : QOk U C L
  k : (s.b.map (·.1)).Nodup
theorem Both.at {U : List Int} {C : Nat} {s : St} {L : Bd} (h : Both U C s L) {st : Int} (hs : s.st ≤ st) : Both U C { s with st := st } L :=
  ⟨⟨h.i.b, h.i.same, by have := h.i.le; show (s.b.length : Int) ≤ st; omega, h.i.cap⟩, h.p, h.l, h.q, h.k⟩
/-- What Apply and Head tell. -/
structure AskOk (s : St) (L : Bd) (t : Ty) (st : Int) (f : Nat) (hd : Ty) (st' : Int) : Prop where
  a : applyF s.b f t st = some (some (apR L t, st'))
  up : st ≤ st'
  top : st' ≤ maxS
  h : headF f s.b t = some hd
  k : hd.kind = (apR L t).kind
  n : hd.name = (apR L t).name
  l : (hd.kids.length : Int) = (apR L t).kids.length
theorem ask_ok {U : List Int} {C : Nat} {s : St} {L : Bd} (h : Both U C s L) {t : Ty} (gt : GdT U t) {st : Int} (h0 : 0 ≤ st) (hst : st ≤ maxS) :
    (∃ f, applyF s.b f t st = some none) ∨ ∃ f hd st', AskOk s L t st f hd st' := by
  have hmS : maxS = 1048576 := rfl
  have hcap := h.i.cap
  obtain ⟨u, st', pa', e, fu, a1, a2, a3, a4⟩ := app_some h.i.b (5000 + s.b.length + 2) t st 0 gt.few h0 (by omega) (by omega) (by omega) (by omega)
  by_cases hc : pa' > 5000 ∨ st' > maxS
  · exact .inl ⟨_, by unfold applyF; rw [e]; simp only; rw [if_pos hc]⟩
  · refine .inr ?_
    have h1 : Ap s.b t u := app_ap h.i.b (5000 + s.b.length + 2) t st 0 u st' pa' gt.few h0 (by omega) (by omega) (by omega) (by omega) e (by omega) (by omega)
    have h2 := apR_ok h.p h.l t gt.pl
    have h3 := h1.det h2
    subst h3
    obtain ⟨hd, hh, _⟩ := head_some' h.i.b (f := 5000 + s.b.length + 2) (t := t) (by omega) gt.few
    obtain ⟨_, k1, k2, _, k4⟩ := h1.head hh
    exact ⟨_, hd, st', ⟨by unfold applyF; rw [e]; simp only; rw [if_neg hc], a1, by omega, hh, k1.symm, k2.symm, by rw [k4.len]⟩⟩
abbrev row2 (A B : Ty) : List (List PV) := [[iv A.kind, sv A.name, iv A.n, tys A.kids], [iv B.kind, sv B.name, iv B.n, tys B.kids]]
theorem row2_eq (A B : Ty) : PV.rows (row2 A B) = tys [A, B] := by simp [row2, tys, Ty.cells_eq]
section
variable {β : Type} {d : β} {k : AV → β}
theorem idx_r0 (A B : Ty) : idxK Try.prog d 25 (.pv (.rows [[iv A.kind, sv A.name, iv A.n, tys A.kids], [iv B.kind, sv B.name, iv B.n, tys B.kids]])) (.pv (.lit (.int .i64 0))) k = k (.cptr [iv A.kind, sv A.name, iv A.n, tys A.kids]) := by
  rw [row2_eq]; exact idxK_tys (l := [A, B]) (i := 0) rfl
theorem idx_r1 (A B : Ty) : idxK Try.prog d 25 (.pv (.rows [[iv A.kind, sv A.name, iv A.n, tys A.kids], [iv B.kind, sv B.name, iv B.n, tys B.kids]])) (.pv (.lit (.int .i64 1))) k = k (.cptr [iv B.kind, sv B.name, iv B.n, tys B.kids]) := by
  rw [row2_eq]; exact idxK_tys (l := [A, B]) (i := 1) rfl
end
/-- How an inner loop ends. -/
def InE (E : Option Rs) (bad good : Int → Rs) (st : Int) : Prop := ∃ st', st ≤ st' ∧ (E = some (bad st') ∨ (st' ≤ maxS ∧ E = some (good st')))
theorem InE.low {E : Option Rs} {bad good : Int → Rs} {st st1 : Int} (h : InE E bad good st1) (hs : st ≤ st1) : InE E bad good st := by
  obtain ⟨st', h1, h2⟩ := h
  exact ⟨st', by omega, h2⟩
theorem wr1 : IntKind.i64.wrap 1 = 1 := by rw [IntKind.wrap_i64]; omega
theorem wr2 : IntKind.i64.wrap 2 = 2 := by rw [IntKind.wrap_i64]; omega
theorem sameF_self (t : Ty) : sameF t t = true := (sameF_iff t t).2 rfl
theorem in_a {U : List Int} {C : Nat} (hC : C ≤ 1000000) {s : St} {L : Bd} (h : Both U C s L) (hL : L = []) {A B : Ty} (gA : GdT U A) (gB : GdT U B) (c d e f : PV) (st : Int) (h0 : s.st ≤ st) (hst : st ≤ maxS) :
    InE (ev (q4b4a (iv 0) [[iv A.kind, sv A.name, iv A.n, tys A.kids], [iv B.kind, sv B.name, iv B.n, tys B.kids]] c d e f (iv s.fr) (iv st) (sbs s.b))) (fun st => (0, [nS, iv s.fr, iv st, sbs s.b, nS, bf, bt, .rows [[iv A.kind, sv A.name, iv A.n, tys A.kids], [iv B.kind, sv B.name, iv B.n, tys B.kids]]])) (fun st => (1, [nS, iv s.fr, iv st, sbs s.b, nS, bf, c, d, e, f, .rows [[iv A.kind, sv A.name, iv A.n, tys A.kids], [iv B.kind, sv B.name, iv B.n, tys B.kids]]])) st := by
  have hz : 0 ≤ st := by have := h.i.le; omega
  have h2 : ∀ st, InE (ev (q4b4a (iv 2) [[iv A.kind, sv A.name, iv A.n, tys A.kids], [iv B.kind, sv B.name, iv B.n, tys B.kids]] c d e f (iv s.fr) (iv st) (sbs s.b))) (fun st => (0, [nS, iv s.fr, iv st, sbs s.b, nS, bf, bt, .rows [[iv A.kind, sv A.name, iv A.n, tys A.kids], [iv B.kind, sv B.name, iv B.n, tys B.kids]]])) (fun st => (1, [nS, iv s.fr, iv st, sbs s.b, nS, bf, c, d, e, f, .rows [[iv A.kind, sv A.name, iv A.n, tys A.kids], [iv B.kind, sv B.name, iv B.n, tys B.kids]]])) st ∨ ¬ st ≤ maxS := fun st => by
    by_cases hm : st ≤ maxS
    · exact .inl ⟨st, Int.le_refl _, .inr ⟨hm, Evl.of (by rw [h4b4a, g4b4a]; simp)⟩⟩
    · exact .inr hm
  have h1 : ∀ st, s.st ≤ st → st ≤ maxS → InE (ev (q4b4a (iv 1) [[iv A.kind, sv A.name, iv A.n, tys A.kids], [iv B.kind, sv B.name, iv B.n, tys B.kids]] c d e f (iv s.fr) (iv st) (sbs s.b))) (fun st => (0, [nS, iv s.fr, iv st, sbs s.b, nS, bf, bt, .rows [[iv A.kind, sv A.name, iv A.n, tys A.kids], [iv B.kind, sv B.name, iv B.n, tys B.kids]]])) (fun st => (1, [nS, iv s.fr, iv st, sbs s.b, nS, bf, c, d, e, f, .rows [[iv A.kind, sv A.name, iv A.n, tys A.kids], [iv B.kind, sv B.name, iv B.n, tys B.kids]]])) st := fun st h0 hst => by
    have hz : 0 ≤ st := by have := h.i.le; omega
    rcases ask_ok h gB hz hst with ⟨ff, e0⟩ | ⟨ff, hd, st', ok⟩
    · have e1 := apply_noa s e0
      exact ⟨1048577, by have hmS : maxS = 1048576 := rfl; omega, .inl (Evl.of (by rw [h4b4a, g4b4a]; simp [idx_r1, e1]))⟩
    · have e1 := apply_oka s ok.a
      have e2 := head_a { s with st := st' } ok.h
      have e3 : ev (q16 (.rows []) (iv B.kind) (sv B.name) (iv B.n) (tys B.kids)) = some (0, [iv (apR L B).kind, sv (apR L B).name, iv (apR L B).n, tys (apR L B).kids]) := by rw [hL]; exact ap_r0 B gB.few
      have e4 := same_b _ _ (apR_few h.q.few B gB.few) (apR_few h.q.few B gB.few)
      rw [sameF_self] at e4
      simp only at e2
      rw [ok.k, ok.n] at e2
      have e5 := ok.l
      have n2 := (h2 st').resolve_right (fun e => e ok.top)
      obtain ⟨st2, u1, u2⟩ := n2
      refine ⟨st2, by have := ok.up; omega, ?_⟩
      rcases u2 with u2 | ⟨u3, u2⟩
      · exact .inl (Evl.of (by rw [h4b4a, g4b4a]; simp [idx_r1, e1, e2, e3, e4, e5, lenK_tys, wr1, wr2, u2]))
      · exact .inr ⟨u3, Evl.of (by rw [h4b4a, g4b4a]; simp [idx_r1, e1, e2, e3, e4, e5, lenK_tys, wr1, wr2, u2])⟩
  rcases ask_ok h gA hz hst with ⟨ff, e0⟩ | ⟨ff, hd, st', ok⟩
  · have e1 := apply_noa s e0
    exact ⟨1048577, by have hmS : maxS = 1048576 := rfl; omega, .inl (Evl.of (by rw [h4b4a, g4b4a]; simp [idx_r0, e1]))⟩
  · have e1 := apply_oka s ok.a
    have e2 := head_a { s with st := st' } ok.h
    have e3 : ev (q16 (.rows []) (iv A.kind) (sv A.name) (iv A.n) (tys A.kids)) = some (0, [iv (apR L A).kind, sv (apR L A).name, iv (apR L A).n, tys (apR L A).kids]) := by rw [hL]; exact ap_r0 A gA.few
    have e4 := same_b _ _ (apR_few h.q.few A gA.few) (apR_few h.q.few A gA.few)
    rw [sameF_self] at e4
    simp only at e2
    rw [ok.k, ok.n] at e2
    have e5 := ok.l
    obtain ⟨st2, u1, u2⟩ := h1 st' (by have := ok.up; omega) ok.top
    refine ⟨st2, by have := ok.up; omega, ?_⟩
    rcases u2 with u2 | ⟨u3, u2⟩
    · exact .inl (Evl.of (by rw [h4b4a, g4b4a]; simp [idx_r0, e1, e2, e3, e4, e5, lenK_tys, wr1, wr2, u2]))
    · exact .inr ⟨u3, Evl.of (by rw [h4b4a, g4b4a]; simp [idx_r0, e1, e2, e3, e4, e5, lenK_tys, wr1, wr2, u2])⟩
theorem in_b {U : List Int} {C : Nat} (hC : C ≤ 1000000) {s : St} {L : Bd} (h : Both U C s L) {A B : Ty} (gA : GdT U A) (gB : GdT U B) (c d e f : PV) (st : Int) (h0 : s.st ≤ st) (hst : st ≤ maxS) :
    InE (ev (q4b4b (iv 0) [[iv A.kind, sv A.name, iv A.n, tys A.kids], [iv B.kind, sv B.name, iv B.n, tys B.kids]] c d e f (iv s.fr) (iv st) (sbs s.b) (sbs L))) (fun st => (0, [nS, iv s.fr, iv st, sbs s.b, bf, sbs L, bt, .rows [[iv A.kind, sv A.name, iv A.n, tys A.kids], [iv B.kind, sv B.name, iv B.n, tys B.kids]]])) (fun st => (1, [nS, iv s.fr, iv st, sbs s.b, bf, sbs L, c, d, e, f, .rows [[iv A.kind, sv A.name, iv A.n, tys A.kids], [iv B.kind, sv B.name, iv B.n, tys B.kids]]])) st := by
  have hz : 0 ≤ st := by have := h.i.le; omega
  have h2 : ∀ st, InE (ev (q4b4b (iv 2) [[iv A.kind, sv A.name, iv A.n, tys A.kids], [iv B.kind, sv B.name, iv B.n, tys B.kids]] c d e f (iv s.fr) (iv st) (sbs s.b) (sbs L))) (fun st => (0, [nS, iv s.fr, iv st, sbs s.b, bf, sbs L, bt, .rows [[iv A.kind, sv A.name, iv A.n, tys A.kids], [iv B.kind, sv B.name, iv B.n, tys B.kids]]])) (fun st => (1, [nS, iv s.fr, iv st, sbs s.b, bf, sbs L, c, d, e, f, .rows [[iv A.kind, sv A.name, iv A.n, tys A.kids], [iv B.kind, sv B.name, iv B.n, tys B.kids]]])) st ∨ ¬ st ≤ maxS := fun st => by
    by_cases hm : st ≤ maxS
    · exact .inl ⟨st, Int.le_refl _, .inr ⟨hm, Evl.of (by rw [h4b4b, g4b4b]; simp)⟩⟩
    · exact .inr hm
  have h1 : ∀ st, s.st ≤ st → st ≤ maxS → InE (ev (q4b4b (iv 1) [[iv A.kind, sv A.name, iv A.n, tys A.kids], [iv B.kind, sv B.name, iv B.n, tys B.kids]] c d e f (iv s.fr) (iv st) (sbs s.b) (sbs L))) (fun st => (0, [nS, iv s.fr, iv st, sbs s.b, bf, sbs L, bt, .rows [[iv A.kind, sv A.name, iv A.n, tys A.kids], [iv B.kind, sv B.name, iv B.n, tys B.kids]]])) (fun st => (1, [nS, iv s.fr, iv st, sbs s.b, bf, sbs L, c, d, e, f, .rows [[iv A.kind, sv A.name, iv A.n, tys A.kids], [iv B.kind, sv B.name, iv B.n, tys B.kids]]])) st := fun st h0 hst => by
    have hz : 0 ≤ st := by have := h.i.le; omega
    rcases ask_ok h gB hz hst with ⟨ff, e0⟩ | ⟨ff, hd, st', ok⟩
    · have e1 := apply_noa s e0
      exact ⟨1048577, by have hmS : maxS = 1048576 := rfl; omega, .inl (Evl.of (by rw [h4b4b, g4b4b]; simp [idx_r1, e1]))⟩
    · have e1 := apply_oka s ok.a
      have e2 := head_a { s with st := st' } ok.h
      have e3 := ap_a L (by have := h.q.len; omega) B gB.few
      have e4 := same_b _ _ (apR_few h.q.few B gB.few) (apR_few h.q.few B gB.few)
      rw [sameF_self] at e4
      simp only at e2
      rw [ok.k, ok.n] at e2
      have e5 := ok.l
      have n2 := (h2 st').resolve_right (fun e => e ok.top)
      obtain ⟨st2, u1, u2⟩ := n2
      refine ⟨st2, by have := ok.up; omega, ?_⟩
      rcases u2 with u2 | ⟨u3, u2⟩
      · exact .inl (Evl.of (by rw [h4b4b, g4b4b]; simp [idx_r1, e1, e2, e3, e4, e5, lenK_tys, wr1, wr2, u2]))
      · exact .inr ⟨u3, Evl.of (by rw [h4b4b, g4b4b]; simp [idx_r1, e1, e2, e3, e4, e5, lenK_tys, wr1, wr2, u2])⟩
  rcases ask_ok h gA hz hst with ⟨ff, e0⟩ | ⟨ff, hd, st', ok⟩
  · have e1 := apply_noa s e0
    exact ⟨1048577, by have hmS : maxS = 1048576 := rfl; omega, .inl (Evl.of (by rw [h4b4b, g4b4b]; simp [idx_r0, e1]))⟩
  · have e1 := apply_oka s ok.a
    have e2 := head_a { s with st := st' } ok.h
    have e3 := ap_a L (by have := h.q.len; omega) A gA.few
    have e4 := same_b _ _ (apR_few h.q.few A gA.few) (apR_few h.q.few A gA.few)
    rw [sameF_self] at e4
    simp only at e2
    rw [ok.k, ok.n] at e2
    have e5 := ok.l
    obtain ⟨st2, u1, u2⟩ := h1 st' (by have := ok.up; omega) ok.top
    refine ⟨st2, by have := ok.up; omega, ?_⟩
    rcases u2 with u2 | ⟨u3, u2⟩
    · exact .inl (Evl.of (by rw [h4b4b, g4b4b]; simp [idx_r0, e1, e2, e3, e4, e5, lenK_tys, wr1, wr2, u2]))
    · exact .inr ⟨u3, Evl.of (by rw [h4b4b, g4b4b]; simp [idx_r0, e1, e2, e3, e4, e5, lenK_tys, wr1, wr2, u2])⟩
theorem in_c {U : List Int} {C : Nat} (hC : C ≤ 1000000) {s : St} {L : Bd} (h : Both U C s L) (hL : L = []) {A B : Ty} (gA : GdT U A) (gB : GdT U B) (c d e f : PV) (st : Int) (h0 : s.st ≤ st) (hst : st ≤ maxS) :
    InE (ev (q4b4c (iv 0) [[iv A.kind, sv A.name, iv A.n, tys A.kids], [iv B.kind, sv B.name, iv B.n, tys B.kids]] c d e f (iv s.fr) (iv st) (sbs s.b) (ints s.tr))) (fun st => (2, [iv s.fr, iv st, sbs s.b, ints s.tr, nS, bf, bt, .rows [[iv A.kind, sv A.name, iv A.n, tys A.kids], [iv B.kind, sv B.name, iv B.n, tys B.kids]]])) (fun st => (3, [iv s.fr, iv st, sbs s.b, ints s.tr, nS, bf, c, d, e, f, .rows [[iv A.kind, sv A.name, iv A.n, tys A.kids], [iv B.kind, sv B.name, iv B.n, tys B.kids]]])) st := by
  have hz : 0 ≤ st := by have := h.i.le; omega
  have h2 : ∀ st, InE (ev (q4b4c (iv 2) [[iv A.kind, sv A.name, iv A.n, tys A.kids], [iv B.kind, sv B.name, iv B.n, tys B.kids]] c d e f (iv s.fr) (iv st) (sbs s.b) (ints s.tr))) (fun st => (2, [iv s.fr, iv st, sbs s.b, ints s.tr, nS, bf, bt, .rows [[iv A.kind, sv A.name, iv A.n, tys A.kids], [iv B.kind, sv B.name, iv B.n, tys B.kids]]])) (fun st => (3, [iv s.fr, iv st, sbs s.b, ints s.tr, nS, bf, c, d, e, f, .rows [[iv A.kind, sv A.name, iv A.n, tys A.kids], [iv B.kind, sv B.name, iv B.n, tys B.kids]]])) st ∨ ¬ st ≤ maxS := fun st => by
    by_cases hm : st ≤ maxS
    · exact .inl ⟨st, Int.le_refl _, .inr ⟨hm, Evl.of (by rw [h4b4c, g4b4c]; simp)⟩⟩
    · exact .inr hm
  have h1 : ∀ st, s.st ≤ st → st ≤ maxS → InE (ev (q4b4c (iv 1) [[iv A.kind, sv A.name, iv A.n, tys A.kids], [iv B.kind, sv B.name, iv B.n, tys B.kids]] c d e f (iv s.fr) (iv st) (sbs s.b) (ints s.tr))) (fun st => (2, [iv s.fr, iv st, sbs s.b, ints s.tr, nS, bf, bt, .rows [[iv A.kind, sv A.name, iv A.n, tys A.kids], [iv B.kind, sv B.name, iv B.n, tys B.kids]]])) (fun st => (3, [iv s.fr, iv st, sbs s.b, ints s.tr, nS, bf, c, d, e, f, .rows [[iv A.kind, sv A.name, iv A.n, tys A.kids], [iv B.kind, sv B.name, iv B.n, tys B.kids]]])) st := fun st h0 hst => by
    have hz : 0 ≤ st := by have := h.i.le; omega
    rcases ask_ok h gB hz hst with ⟨ff, e0⟩ | ⟨ff, hd, st', ok⟩
    · have e1 := apply_no s e0
      exact ⟨1048577, by have hmS : maxS = 1048576 := rfl; omega, .inl (Evl.of (by rw [h4b4c, g4b4c]; simp [idx_r1, e1]))⟩
    · have e1 := apply_ok s ok.a
      have e2 := head_b { s with st := st' } ok.h
      have e3 : ev (q16 (.rows []) (iv B.kind) (sv B.name) (iv B.n) (tys B.kids)) = some (0, [iv (apR L B).kind, sv (apR L B).name, iv (apR L B).n, tys (apR L B).kids]) := by rw [hL]; exact ap_r0 B gB.few
      have e4 := same_b _ _ (apR_few h.q.few B gB.few) (apR_few h.q.few B gB.few)
      rw [sameF_self] at e4
      simp only at e2
      rw [ok.k, ok.n] at e2
      have e5 := ok.l
      have n2 := (h2 st').resolve_right (fun e => e ok.top)
      obtain ⟨st2, u1, u2⟩ := n2
      refine ⟨st2, by have := ok.up; omega, ?_⟩
      rcases u2 with u2 | ⟨u3, u2⟩
      · exact .inl (Evl.of (by rw [h4b4c, g4b4c]; simp [idx_r1, e1, e2, e3, e4, e5, lenK_tys, wr1, wr2, u2]))
      · exact .inr ⟨u3, Evl.of (by rw [h4b4c, g4b4c]; simp [idx_r1, e1, e2, e3, e4, e5, lenK_tys, wr1, wr2, u2])⟩
  rcases ask_ok h gA hz hst with ⟨ff, e0⟩ | ⟨ff, hd, st', ok⟩
  · have e1 := apply_no s e0
    exact ⟨1048577, by have hmS : maxS = 1048576 := rfl; omega, .inl (Evl.of (by rw [h4b4c, g4b4c]; simp [idx_r0, e1]))⟩
  · have e1 := apply_ok s ok.a
    have e2 := head_b { s with st := st' } ok.h
    have e3 : ev (q16 (.rows []) (iv A.kind) (sv A.name) (iv A.n) (tys A.kids)) = some (0, [iv (apR L A).kind, sv (apR L A).name, iv (apR L A).n, tys (apR L A).kids]) := by rw [hL]; exact ap_r0 A gA.few
    have e4 := same_b _ _ (apR_few h.q.few A gA.few) (apR_few h.q.few A gA.few)
    rw [sameF_self] at e4
    simp only at e2
    rw [ok.k, ok.n] at e2
    have e5 := ok.l
    obtain ⟨st2, u1, u2⟩ := h1 st' (by have := ok.up; omega) ok.top
    refine ⟨st2, by have := ok.up; omega, ?_⟩
    rcases u2 with u2 | ⟨u3, u2⟩
    · exact .inl (Evl.of (by rw [h4b4c, g4b4c]; simp [idx_r0, e1, e2, e3, e4, e5, lenK_tys, wr1, wr2, u2]))
    · exact .inr ⟨u3, Evl.of (by rw [h4b4c, g4b4c]; simp [idx_r0, e1, e2, e3, e4, e5, lenK_tys, wr1, wr2, u2])⟩
theorem in_d {U : List Int} {C : Nat} (hC : C ≤ 1000000) {s : St} {L : Bd} (h : Both U C s L) {A B : Ty} (gA : GdT U A) (gB : GdT U B) (c d e f : PV) (st : Int) (h0 : s.st ≤ st) (hst : st ≤ maxS) :
    InE (ev (q4b4d (iv 0) [[iv A.kind, sv A.name, iv A.n, tys A.kids], [iv B.kind, sv B.name, iv B.n, tys B.kids]] c d e f (iv s.fr) (iv st) (sbs s.b) (ints s.tr) (sbs L))) (fun st => (0, [iv s.fr, iv st, sbs s.b, ints s.tr, bf, sbs L, bt, .rows [[iv A.kind, sv A.name, iv A.n, tys A.kids], [iv B.kind, sv B.name, iv B.n, tys B.kids]]])) (fun st => (1, [iv s.fr, iv st, sbs s.b, ints s.tr, bf, sbs L, c, d, e, f, .rows [[iv A.kind, sv A.name, iv A.n, tys A.kids], [iv B.kind, sv B.name, iv B.n, tys B.kids]]])) st := by
  have hz : 0 ≤ st := by have := h.i.le; omega
  have h2 : ∀ st, InE (ev (q4b4d (iv 2) [[iv A.kind, sv A.name, iv A.n, tys A.kids], [iv B.kind, sv B.name, iv B.n, tys B.kids]] c d e f (iv s.fr) (iv st) (sbs s.b) (ints s.tr) (sbs L))) (fun st => (0, [iv s.fr, iv st, sbs s.b, ints s.tr, bf, sbs L, bt, .rows [[iv A.kind, sv A.name, iv A.n, tys A.kids], [iv B.kind, sv B.name, iv B.n, tys B.kids]]])) (fun st => (1, [iv s.fr, iv st, sbs s.b, ints s.tr, bf, sbs L, c, d, e, f, .rows [[iv A.kind, sv A.name, iv A.n, tys A.kids], [iv B.kind, sv B.name, iv B.n, tys B.kids]]])) st ∨ ¬ st ≤ maxS := fun st => by
    by_cases hm : st ≤ maxS
    · exact .inl ⟨st, Int.le_refl _, .inr ⟨hm, Evl.of (by rw [h4b4d, g4b4d]; simp)⟩⟩
    · exact .inr hm
  have h1 : ∀ st, s.st ≤ st → st ≤ maxS → InE (ev (q4b4d (iv 1) [[iv A.kind, sv A.name, iv A.n, tys A.kids], [iv B.kind, sv B.name, iv B.n, tys B.kids]] c d e f (iv s.fr) (iv st) (sbs s.b) (ints s.tr) (sbs L))) (fun st => (0, [iv s.fr, iv st, sbs s.b, ints s.tr, bf, sbs L, bt, .rows [[iv A.kind, sv A.name, iv A.n, tys A.kids], [iv B.kind, sv B.name, iv B.n, tys B.kids]]])) (fun st => (1, [iv s.fr, iv st, sbs s.b, ints s.tr, bf, sbs L, c, d, e, f, .rows [[iv A.kind, sv A.name, iv A.n, tys A.kids], [iv B.kind, sv B.name, iv B.n, tys B.kids]]])) st := fun st h0 hst => by
    have hz : 0 ≤ st := by have := h.i.le; omega
    rcases ask_ok h gB hz hst with ⟨ff, e0⟩ | ⟨ff, hd, st', ok⟩
    · have e1 := apply_no s e0
      exact ⟨1048577, by have hmS : maxS = 1048576 := rfl; omega, .inl (Evl.of (by rw [h4b4d, g4b4d]; simp [idx_r1, e1]))⟩
    · have e1 := apply_ok s ok.a
      have e2 := head_b { s with st := st' } ok.h
      have e3 := ap_a L (by have := h.q.len; omega) B gB.few
      have e4 := same_b _ _ (apR_few h.q.few B gB.few) (apR_few h.q.few B gB.few)
      rw [sameF_self] at e4
      simp only at e2
      rw [ok.k, ok.n] at e2
      have e5 := ok.l
      have n2 := (h2 st').resolve_right (fun e => e ok.top)
      obtain ⟨st2, u1, u2⟩ := n2
      refine ⟨st2, by have := ok.up; omega, ?_⟩
      rcases u2 with u2 | ⟨u3, u2⟩
      · exact .inl (Evl.of (by rw [h4b4d, g4b4d]; simp [idx_r1, e1, e2, e3, e4, e5, lenK_tys, wr1, wr2, u2]))
      · exact .inr ⟨u3, Evl.of (by rw [h4b4d, g4b4d]; simp [idx_r1, e1, e2, e3, e4, e5, lenK_tys, wr1, wr2, u2])⟩
  rcases ask_ok h gA hz hst with ⟨ff, e0⟩ | ⟨ff, hd, st', ok⟩
  · have e1 := apply_no s e0
    exact ⟨1048577, by have hmS : maxS = 1048576 := rfl; omega, .inl (Evl.of (by rw [h4b4d, g4b4d]; simp [idx_r0, e1]))⟩
  · have e1 := apply_ok s ok.a
    have e2 := head_b { s with st := st' } ok.h
    have e3 := ap_a L (by have := h.q.len; omega) A gA.few
    have e4 := same_b _ _ (apR_few h.q.few A gA.few) (apR_few h.q.few A gA.few)
    rw [sameF_self] at e4
    simp only at e2
    rw [ok.k, ok.n] at e2
    have e5 := ok.l
    obtain ⟨st2, u1, u2⟩ := h1 st' (by have := ok.up; omega) ok.top
    refine ⟨st2, by have := ok.up; omega, ?_⟩
    rcases u2 with u2 | ⟨u3, u2⟩
    · exact .inl (Evl.of (by rw [h4b4d, g4b4d]; simp [idx_r0, e1, e2, e3, e4, e5, lenK_tys, wr1, wr2, u2]))
    · exact .inr ⟨u3, Evl.of (by rw [h4b4d, g4b4d]; simp [idx_r0, e1, e2, e3, e4, e5, lenK_tys, wr1, wr2, u2])⟩
/-- How the loop over the pairs ends: the law is true, or it goes on. -/
def LawE (fr FR : PV) (E : Option Rs) : Prop := ∃ x y z, E = some (0, [nS, fr, x, y, nS, bf, bt]) ∨ E = some (1, [fr, x, y, nS, bf, z, bt]) ∨ E = some (2, [nS, fr, x, y, nS, bf, FR]) ∨ E = some (3, [fr, x, y, nS, bf, z, FR])
theorem LawE.b0 {fr FR : PV} {E : Option Rs} (x y : PV) (h : E = some (0, [nS, fr, x, y, nS, bf, bt])) : LawE fr FR E := ⟨x, y, y, .inl h⟩
theorem LawE.b1 {fr FR : PV} {E : Option Rs} (x y z : PV) (h : E = some (1, [fr, x, y, nS, bf, z, bt])) : LawE fr FR E := ⟨x, y, z, .inr (.inl h)⟩
theorem LawE.b2 {fr FR : PV} {E : Option Rs} (x y : PV) (h : E = some (2, [nS, fr, x, y, nS, bf, FR])) : LawE fr FR E := ⟨x, y, y, .inr (.inr (.inl h))⟩
theorem LawE.b3 {fr FR : PV} {E : Option Rs} (x y z : PV) (h : E = some (3, [fr, x, y, nS, bf, z, FR])) : LawE fr FR E := ⟨x, y, z, .inr (.inr (.inr h))⟩
theorem LawE.go {fr FR : PV} {E E2 : Option Rs} (h : LawE fr FR E) (t : ∀ R, E = some R → E2 = some R) : LawE fr FR E2 := by
  obtain ⟨x, y, z, h⟩ := h
  rcases h with h | h | h | h
  · exact ⟨x, y, z, .inl (t _ h)⟩
  · exact ⟨x, y, z, .inr (.inl (t _ h))⟩
  · exact ⟨x, y, z, .inr (.inr (.inl (t _ h)))⟩
  · exact ⟨x, y, z, .inr (.inr (.inr (t _ h)))⟩
/-- From the j-th pair on. -/
structure Ihs (U : List Int) (C : Nat) (N P FR : PV) (fr j : Int) : Prop where
  a : ∀ s : St, Both U C s [] → s.tr = [] → s.st ≤ maxS → s.fr = fr → LawE (iv fr) FR (ev (q4b2a (iv j) N P FR (iv fr) (iv s.st) (sbs s.b)))
  b : ∀ s : St, Both U C s [] → s.tr = [] → s.st ≤ maxS → s.fr = fr → LawE (iv fr) FR (ev (q4b2b (iv j) N P FR (iv fr) (iv s.st) (sbs s.b)))
  c : ∀ (s : St) (L : Bd), Both U C s L → L ≠ [] → s.tr = [] → s.st ≤ maxS → s.fr = fr → LawE (iv fr) FR (ev (q4b2c (iv j) N P FR (iv fr) (iv s.st) (sbs s.b) (sbs L)))
  d : ∀ s : St, Both U C s [] → s.st ≤ maxS → s.fr = fr → LawE (iv fr) FR (ev (q4b2d (iv j) N P FR (iv fr) (iv s.st) (sbs s.b) (ints s.tr)))
  e : ∀ s : St, Both U C s [] → s.st ≤ maxS → s.fr = fr → LawE (iv fr) FR (ev (q4b2e (iv j) N P FR (iv fr) (iv s.st) (sbs s.b) (ints s.tr)))
  f : ∀ (s : St) (L : Bd), Both U C s L → L ≠ [] → s.st ≤ maxS → s.fr = fr → LawE (iv fr) FR (ev (q4b2f (iv j) N P FR (iv fr) (iv s.st) (sbs s.b) (ints s.tr) (sbs L)))
/-- A step of both. -/
structure StepH (U : List Int) (C : Nat) (s s' : St) (L : Bd) (p : Pr) (r r2 : Bool) (q2 : EqSt) : Prop where
  h : Both U C s L
  u : ∃ f, unifF f p.a p.b s = some (r, s')
  o : ∃ G, oneF G ⟨L, false⟩ p.a p.b = some (r2, q2)
  fr : s'.fr = s.fr
  up : s.st ≤ s'.st
  len : s'.tr.length ≤ 1000000001
  nx : s'.st ≤ maxS → q2.o = false → r2 = r ∧ (r = true → Both U C s' q2.L)
  keep : q2.L = L ∨ L.length < q2.L.length
  ga : GdT U p.a
  gb : GdT U p.b
  tl : s'.tr.length = s.tr.length → s'.tr = s.tr
theorem step_h {U : List Int} {C : Nat} (hC : C ≤ 1000000) {s : St} {L : Bd} (h : Both U C s L) (hst : s.st ≤ maxS) {p : Pr} (ga : GdT U p.a) (gb : GdT U p.b) : ∃ s' r r2 q2, StepH U C s s' L p r r2 q2 := by
  have hmS : maxS = 1048576 := rfl
  have hle := h.i.le
  obtain ⟨r, s', e, c1, c2, c3, c4⟩ := unif_some 2097200 p.a p.b s ga.few gb.few h.i (by omega) (by omega)
  obtain ⟨G, r2, q2, eo, hok⟩ := one_end U C hC (unM U L) L h.q (Nat.le_refl _) p.a p.b ga gb
  refine ⟨s', r, r2, q2, h, ⟨_, e⟩, ⟨G, eo⟩, (unif_ext _ p.a p.b s s' r e).fr, c2, ?_, fun hs ho => ?_, one_len _ _ _ _ _ _ eo, ga, gb, fun hl => ?_⟩
  · have h1 := c1.same
    unfold Same at h1
    have h2 := c1.cap
    omega
  · have eq1 : Eqv s.b p.a p.a := ⟨_, apR_ok h.p h.l p.a ga.pl, apR_ok h.p h.l p.a ga.pl⟩
    have eq2 : Eqv s.b p.b p.b := ⟨_, apR_ok h.p h.l p.b gb.pl, apR_ok h.p h.l p.b gb.pl⟩
    obtain ⟨k1, k2⟩ := one_sim G 2097200 p.a p.b p.a p.b s s' r r2 L q2 ga.few gb.few ga.pl gb.pl ga.pl gb.pl h.i h.p h.l eq1 eq2 (by omega) (by omega) e hs eo ho
    refine ⟨k1, fun hr => ?_⟩
    obtain ⟨k3, k4, _⟩ := k2 hr
    refine ⟨c1, k4, k3, ?_, (unif_ext4 _ _ _ _ _ _ e).keys h.k⟩
    rcases hok (by rw [k1]; exact hr) with h9 | ⟨_, h9, _⟩
    · rw [ho] at h9; cases h9
    · exact h9
  · obtain ⟨tl, htl⟩ := (unif_ext _ p.a p.b s s' r e).tr
    rw [htl] at hl
    simp at hl
    rw [htl, hl]; simp
theorem h13_ev : ev q13a = some (1, [nS, bf, nS, bf]) := Evl.of (by
  have h0 : ∀ k : Res, app0K Try.prog .fail 30 (.pv (.lit (.slice none 0 0))) (.pv (.lit (.slice none 0 0))) k = k := fun k => by
    obtain ⟨⟨e, zc, h1, h2, h3, h4, h5⟩, h6⟩ := sl_sbs
    exact app0K_of ⟨e, 5, 64, zc, h1, h2, h3, h4, rfl, rfl⟩
  have h1 : ∀ k : PV → Res, appK Try.prog .fail 30 (.pv (.lit (.slice none 0 0))) (.pv (.lit (.slice none 0 0))) k = .fail := fun k => by
    unfold appK theK
    rw [dif_neg]
    rintro ⟨w, ⟨e, sz, by_, zc, es, es2, _, _, _, _, _, _, _, h2, h3, _⟩, _⟩
    cases h2
  rw [h13a, g13a]
  simp [h0, h1])
theorem h110_ev (L : Bd) (h : L ≠ []) (hl : L.length ≤ 1000000) : ev (q13b (sbs L)) = some (0, [bf, sbs L, bf, sbs L]) := Evl.of (by
  rw [h13b]
  cases L with
  | nil => exact absurd rfl h
  | cons x l =>
    have hall : ((sbC x :: l.map sbC).all fun c => decide (c.length = 5)) = true := by
      rw [List.all_eq_true]
      intro c hc
      have : c ∈ (x :: l).map sbC := hc
      obtain ⟨y, _, rfl⟩ := List.mem_map.1 this
      simp [sbC, Ty.cells_len]
    have hlen : (l.map sbC).length ≤ 1000000 := by rw [List.length_map]; simp at hl; omega
    show extK (cpyP [.rows (sbC x :: l.map sbC)]) = _
    have hc : cpyP [.rows (sbC x :: l.map sbC)] = some (0, [bf, .rows (sbC x :: l.map sbC), bf, .rows (sbC x :: l.map sbC)]) := by
      show (if ((sbC x :: l.map sbC).all fun c => decide (c.length = 5)) && decide ((l.map sbC).length ≤ 1000000) then _ else _) = _
      rw [hall, decide_eq_true hlen]
      rfl
    rw [hc]
    rfl)
end Go.Proofs.Ytnepapfndihalaa
