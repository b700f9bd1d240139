/- Joined texts. -/
import Derived.Test.YtnepapfndihalaaBg
set_option linter.unusedVariables false
set_option linter.unusedSimpArgs false
set_option linter.unusedSectionVars false
namespace Go.Proofs.Ytnepapfndihalaa
open Go.RowKit
/-- Too great? -/
def tooB (t : Ty) : Bool := decide (5000 < szF t)
mutual
def sameF : Ty → Ty → Bool
  | .mk k s n ks, .mk k' s' n' ks' => decide (k = k') && (decide (s = s') && (decide (n = n') && sameL ks ks'))
def sameL : List Ty → List Ty → Bool
  | [], [] => true
  | a :: l, b :: m => sameF a b && sameL l m
  | [], _ :: _ => false
  | _ :: _, [] => false
end
mutual
theorem sameF_iff : ∀ a b : Ty, sameF a b = true ↔ a = b
  | .mk k s n ks, .mk k' s' n' ks' => by
    rw [sameF]
    simp only [Bool.and_eq_true, decide_eq_true_eq, sameL_iff ks ks', Ty.mk.injEq]
theorem sameL_iff : ∀ a b : List Ty, sameL a b = true ↔ a = b
  | [], [] => by rw [sameL]; simp
  | a :: l, b :: m => by
    rw [sameL]
    simp only [Bool.and_eq_true, sameF_iff a b, sameL_iff l m, List.cons.injEq]
  | [], _ :: _ => by rw [sameL]; simp
  | _ :: _, [] => by rw [sameL]; simp
end
/-- A meta stands for a type from now on: what is bound; was a type too great? -/
def putL (n : Int) (B : Ty) : Bd → Bd × Bool
  | [] => ([], false)
  | (k, t) :: l => if tooB (apR [(n, B)] t) then ((k, apR [(n, B)] t) :: l, true) else ((k, apR [(n, B)] t) :: (putL n B l).1, (putL n B l).2)
theorem putL_ok {n : Int} {B : Ty} : ∀ {L : Bd}, (putL n B L).2 = false → (putL n B L).1 = L.map fun x => (x.1, apR [(n, B)] x.2)
  | [], _ => rfl
  | (k, t) :: l, h => by
    rw [putL] at h ⊢
    by_cases c : tooB (apR [(n, B)] t) = true
    · rw [if_pos c] at h; cases h
    · rw [if_neg c] at h ⊢
      simp only at h ⊢
      rw [putL_ok h]; rfl
/-- Equations' state: what is bound; too great. -/
structure EqSt where
  L : Bd
  o : Bool
def oneKids (g : EqSt → Ty → Ty → Option (Bool × EqSt)) : List Ty → List Ty → EqSt → Option (Bool × EqSt)
  | x :: l, y :: m, q => match g q x y with
    | none => none
    | some (false, q') => some (false, q')
    | some (true, q') => oneKids g l m q'
  | _, _, q => some (true, q)
def oneF : Nat → EqSt → Ty → Ty → Option (Bool × EqSt)
  | 0, _, _, _ => none
  | f + 1, q, x, y => if q.o = true then some (true, q) else
    if tooB (apR q.L x) = true ∨ tooB (apR q.L y) = true then some (true, ⟨q.L, true⟩)
    else if sameF (apR q.L x) (apR q.L y) = true then some (true, q)
    else if (apR q.L x).kind = 2 ∧ ((apR q.L y).kind ≠ 2 ∨ (apR q.L x).n > (apR q.L y).n) then
      if hasM (apR q.L x).n (apR q.L y) = true then some (false, q)
      else if q.L.length ≤ 1000000 then some (true, ⟨(putL (apR q.L x).n (apR q.L y) q.L).1 ++ [((apR q.L x).n, apR q.L y)], (putL (apR q.L x).n (apR q.L y) q.L).2⟩) else none
    else if (apR q.L y).kind = 2 then oneF f q (apR q.L y) (apR q.L x)
    else if (apR q.L x).kind ≠ (apR q.L y).kind ∨ (apR q.L x).name ≠ (apR q.L y).name ∨ (apR q.L x).n ≠ (apR q.L y).n ∨ (apR q.L x).kids.length ≠ (apR q.L y).kids.length then some (false, q)
    else oneKids (oneF f) (apR q.L x).kids (apR q.L y).kids q
theorem one_over : ∀ {f : Nat} {q q' : EqSt} {x y : Ty} {r : Bool}, q.o = true → oneF f q x y = some (r, q') → r = true ∧ q' = q
  | 0, q, q', x, y, r, ho, h => by cases h
  | f + 1, q, q', x, y, r, ho, h => by rw [oneF, if_pos ho] at h; cases h; exact ⟨rfl, rfl⟩
theorem kids_over {f : Nat} : ∀ {l m : List Ty} {q q' : EqSt} {r : Bool}, q.o = true → oneKids (oneF f) l m q = some (r, q') → q'.o = true
  | [], _, q, q', r, ho, h => by simp [oneKids] at h; rw [← h.2]; exact ho
  | _ :: _, [], q, q', r, ho, h => by simp [oneKids] at h; rw [← h.2]; exact ho
  | x :: l, y :: m, q, q', r, ho, h => by
    rw [oneKids] at h
    cases e : oneF f q x y with
    | none => rw [e] at h; cases h
    | some a =>
      obtain ⟨r0, q0⟩ := a
      obtain ⟨rfl, rfl⟩ := one_over ho e
      rw [e] at h
      simp only at h
      exact kids_over ho h
/-- Two types stand for one thing. -/
def Eqv (b : Bd) (t t' : Ty) : Prop := ∃ v, Ap b t v ∧ Ap b t' v
theorem plB_bind {b : Bd} (hp : PlB b) {n : Int} {h : Ty} (hh : plainF h = true) : PlB (b ++ [(n, h)]) := fun x hx => by
  rcases List.mem_append.1 hx with hx | hx
  · exact hp x hx
  · rw [List.mem_singleton.1 hx]; exact hh
def SimG (G : Nat) : Prop := ∀ (f : Nat) (x y x' y' : Ty) (s s' : St) (r r2 : Bool) (L : Bd) (q2 : EqSt), Few x → Few y → plainF x = true → plainF y = true → plainF x' = true → plainF y' = true → InvS s → PlB s.b → InvL s.b L → Eqv s.b x x' → Eqv s.b y y' → s.st ≤ 1100000000000 → (1048576 - s.st).toNat + 1048579 ≤ f →
  unifF f x y s = some (r, s') → s'.st ≤ maxS → oneF G ⟨L, false⟩ x' y' = some (r2, q2) → q2.o = false → r2 = r ∧ (r = true → InvL s'.b q2.L ∧ PlB s'.b ∧ ∀ t t', Eqv s.b t t' → Eqv s'.b t t')
theorem kids_sim {G : Nat} (hG : SimG G) {f : Nat} : ∀ (l m l' m' : List Ty) (s s' : St) (r r2 : Bool) (L : Bd) (q2 : EqSt), (∀ t ∈ l, Few t ∧ plainF t = true) → (∀ t ∈ m, Few t ∧ plainF t = true) → (∀ t ∈ l', plainF t = true) → (∀ t ∈ m', plainF t = true) → InvS s → PlB s.b → InvL s.b L → All2 (Eqv s.b) l l' → All2 (Eqv s.b) m m' → s.st ≤ 1100000000000 → (1048576 - s.st).toNat + 1048579 ≤ f →
    kidsF (unifF f) l m s = some (r, s') → s'.st ≤ maxS → oneKids (oneF G) l' m' ⟨L, false⟩ = some (r2, q2) → q2.o = false → r2 = r ∧ (r = true → InvL s'.b q2.L ∧ PlB s'.b ∧ ∀ t t', Eqv s.b t t' → Eqv s'.b t t')
  | [], m, _, m', s, s', r, r2, L, q2, _, _, _, _, hi, hp, hL, .nil, _, _, _, h, _, h2, _ => by
    simp [kidsF] at h
    simp [oneKids] at h2
    obtain ⟨rfl, rfl⟩ := h
    obtain ⟨rfl, rfl⟩ := h2
    exact ⟨rfl, fun _ => ⟨hL, hp, fun _ _ e => e⟩⟩
  | x :: l, [], x' :: l', _, s, s', r, r2, L, q2, _, _, _, _, hi, hp, hL, _, .nil, _, _, h, _, h2, _ => by
    simp [kidsF] at h
    simp [oneKids] at h2
    obtain ⟨rfl, rfl⟩ := h
    obtain ⟨rfl, rfl⟩ := h2
    exact ⟨rfl, fun _ => ⟨hL, hp, fun _ _ e => e⟩⟩
  | x :: l, y :: m, x' :: l', y' :: m', s, s', r, r2, L, q2, hl, hm, hl', hm', hi, hp, hL, .cons a1 k1, .cons a2 k2, hs, hf, h, hx, h2, ho => by
    obtain ⟨fx, px⟩ := hl x List.mem_cons_self
    obtain ⟨fy, py⟩ := hm y List.mem_cons_self
    obtain ⟨r0, s0, e, c1, c2, c3, c4⟩ := unif_some f x y s fx fy hi hs hf
    rw [kidsF, e] at h
    rw [oneKids] at h2
    have hmS : maxS = 1048576 := rfl
    cases e2 : oneF G ⟨L, false⟩ x' y' with
    | none => rw [e2] at h2; cases h2
    | some a =>
    obtain ⟨r3, q3⟩ := a
    rw [e2] at h2
    have hq3 : q3.o = false := by
      cases r3 with
      | false => cases h2; exact ho
      | true =>
        simp only at h2
        cases hq : q3.o with
        | false => rfl
        | true =>
          have := kids_over hq h2
          rw [this] at ho; cases ho
    have hx0 : s0.st ≤ maxS := by
      cases r0 with
      | false => cases h; exact hx
      | true =>
        simp only at h
        obtain ⟨r5, s5, e5, d1, d2, d3, d4⟩ := kids_some (unif_some f) l m s0 (fun t ht => (hl t (List.mem_cons_of_mem _ ht)).1) (fun t ht => (hm t (List.mem_cons_of_mem _ ht)).1) c1 (c4 rfl) (by omega)
        rw [e5] at h
        cases h
        omega
    obtain ⟨j1, j2⟩ := hG f x y x' y' s s0 r0 r3 L q3 fx fy px py (hl' x' List.mem_cons_self) (hm' y' List.mem_cons_self) hi hp hL a1 a2 hs hf e hx0 e2 hq3
    subst j1
    cases r3 with
    | false =>
      cases h
      cases h2
      exact ⟨rfl, fun e => by cases e⟩
    | true =>
      obtain ⟨i1, i2, i3⟩ := j2 rfl
      simp only at h h2
      have h2' : oneKids (oneF G) l' m' ⟨q3.L, false⟩ = some (r2, q2) := by rw [← hq3]; exact h2
      obtain ⟨n1, n2⟩ := kids_sim hG l m l' m' s0 s' r r2 q3.L q2 (fun t ht => hl t (List.mem_cons_of_mem _ ht)) (fun t ht => hm t (List.mem_cons_of_mem _ ht)) (fun t ht => hl' t (List.mem_cons_of_mem _ ht)) (fun t ht => hm' t (List.mem_cons_of_mem _ ht)) c1 i2 i1 (k1.mono i3) (k2.mono i3) (c4 rfl) (by omega) h hx h2' ho
      exact ⟨n1, fun hr => by
        obtain ⟨o1, o2, o3⟩ := n2 hr
        exact ⟨o1, o2, fun t t' he => o3 t t' (i3 t t' he)⟩⟩
theorem Eqv.image {b : Bd} {x x' : Ty} (h : Eqv b x x') {L : Bd} (hp : PlB b) (hL : InvL b L) (px : plainF x' = true) : Ap b x (apR L x') ∧ Ap b x' (apR L x') := by
  obtain ⟨v, h1, h2⟩ := h
  have h3 := apR_ok hp hL x' px
  have := h2.det h3
  subst this
  exact ⟨h1, h2⟩
theorem bind_sim {b L : Bd} (hp : PlB b) (hL : InvL b L) {n : Int} {h B : Ty} (hn : bget b n = none) (ph : plainF h = true) (hB : Ap b h B) (hno : hasM n B = false) (hov : (putL n B L).2 = false) :
    InvL (b ++ [(n, h)]) ((putL n B L).1 ++ [(n, B)]) ∧ PlB (b ++ [(n, h)]) ∧ ∀ t t', Eqv b t t' → Eqv (b ++ [(n, h)]) t t' := by
  refine ⟨?_, plB_bind hp ph, fun t t' he => ?_⟩
  · rw [putL_ok hov]
    exact hL.bind hn hB hno
  · obtain ⟨v, h1, h2⟩ := he
    exact ⟨_, Ap.sub hn hB hno h1, Ap.sub hn hB hno h2⟩
theorem one_sim : ∀ G : Nat, SimG G
  | 0 => fun f x y x' y' s s' r r2 L q2 _ _ _ _ _ _ _ _ _ _ _ _ _ _ _ h => by cases h
  | G + 1 => fun f x y x' y' s s' r r2 L q2 fx fy px py px' py' hi hp hL ex ey hs hf h hx h2 ho => by
    have hle := hi.le
    have h0 : 0 ≤ s.st := by omega
    have hst := step_n h0 (by omega)
    have hmS : maxS = 1048576 := rfl
    obtain ⟨ax, ax'⟩ := ex.image hp hL px'
    obtain ⟨ay, ay'⟩ := ey.image hp hL py'
    have pA := ax'.plain hp px'
    have pB := ay'.plain hp py'
    rw [oneF, if_neg (by simp)] at h2
    simp only at h2
    generalize apR L x' = A at *
    generalize apR L y' = B at *
    by_cases c1 : tooB A = true ∨ tooB B = true
    · rw [if_pos c1] at h2; cases h2; cases ho
    rw [if_neg c1] at h2
    by_cases c2 : sameF A B = true
    · rw [if_pos c2] at h2
      cases h2
      have hAB := (sameF_iff A B).1 c2
      subst hAB
      obtain ⟨e1, e2⟩ := unif_eq f x y A s s' r fx fy px py hi hp ax ay hs hf h hx
      subst e1
      exact ⟨rfl, fun _ => ⟨by rw [e2]; exact hL, by rw [e2]; exact hp, fun t t' he => by rw [e2]; exact he⟩⟩
    rw [if_neg c2] at h2
    -- the store's side
    cases f with
    | zero => omega
    | succ f =>
    have hi' : InvS s.step := ⟨hi.b, hi.same, by show (s.b.length : Int) ≤ stepI s.st; omega, hi.cap⟩
    have hst' : s.step.st = s.st + 1 := hst
    by_cases c3 : A.kind = 2 ∧ (B.kind ≠ 2 ∨ A.n > B.n)
    · rw [if_pos c3] at h2
      rw [unifF] at h
      cases ha : headF f s.b x with
      | none => rw [ha] at h; cases h
      | some a =>
      cases hb : headF f s.b y with
      | none => rw [ha, hb] at h; cases h
      | some b =>
      rw [ha, hb] at h
      simp only at h
      obtain ⟨_, a1, a2, a3, a4⟩ := ax.head ha
      obtain ⟨hbB, b1, b2, b3, b4⟩ := ay.head hb
      have fb := few_head hi.b fy hb
      have pb := plain_head hp py hb
      rw [hst] at h
      by_cases hm : s.st + 1 ≤ maxS
      · rw [if_pos hm] at h
        have k2 : a.kind = 2 := by rw [← a1]; exact c3.1
        have hno : ¬ (b.kind = 2 ∧ b.n > a.n) := fun e => by
          rcases c3.2 with h9 | h9
          · exact h9 (by rw [b1]; exact e.1)
          · rw [a3, b3] at h9; omega
        rw [if_pos ⟨k2, hno⟩] at h
        unfold metaF at h
        have hne : ¬ (b.kind = 2 ∧ b.n = a.n) := fun e => by
          rcases c3.2 with h9 | h9
          · exact h9 (by rw [b1]; exact e.1)
          · rw [a3, b3] at h9; omega
        rw [if_neg hne] at h
        cases hoc : occF s.step.b a.n f b s.step.st with
        | none => rw [hoc] at h; cases h
        | some z =>
          obtain ⟨ro, st⟩ := z
          rw [hoc] at h
          have hbl : s.b.length ≤ 1048576 := hi.cap
          have hocc := fun hst9 => occ_has hi.b hp a.n f b B s.step.st ro st fb pb hbB (by omega) (by omega) (by omega) hoc hst9
          rw [← a3] at hocc
          cases ro with
          | true =>
            cases h
            have := hocc hx
            rw [if_pos this.symm] at h2
            cases h2
            exact ⟨rfl, fun e => by cases e⟩
          | false =>
            simp only at h
            split at h
            · cases h
              have h9 : hasM A.n B = false := (hocc hx).symm
              rw [if_neg (by rw [h9]; simp)] at h2
              split at h2
              · cases h2
                have hfr : bget s.b a.n = none := head_free ha k2
                refine ⟨rfl, fun _ => ?_⟩
                rw [a3] at ho h9 ⊢
                exact bind_sim hp hL hfr pb hbB h9 ho
              · cases h2
            · cases h
      · rw [if_neg hm] at h
        cases h
        omega
    · rw [if_neg c3] at h2
      by_cases c4 : B.kind = 2
      · rw [if_pos c4] at h2
        rw [unif_comm] at h
        exact one_sim G (f + 1) y x B A s s' r r2 L q2 fy fx py px pB pA hi hp hL ⟨B, ay, ay.idem⟩ ⟨A, ax, ax.idem⟩ hs hf h hx h2 ho
      · rw [if_neg c4] at h2
        rw [unifF] at h
        cases ha : headF f s.b x with
        | none => rw [ha] at h; cases h
        | some a =>
        cases hb : headF f s.b y with
        | none => rw [ha, hb] at h; cases h
        | some b =>
        rw [ha, hb] at h
        simp only at h
        obtain ⟨_, a1, a2, a3, a4⟩ := ax.head ha
        obtain ⟨_, b1, b2, b3, b4⟩ := ay.head hb
        have fa := few_head hi.b fx ha
        have fb := few_head hi.b fy hb
        have pa := plain_head hp px ha
        have pb := plain_head hp py hb
        have k1 : ¬ a.kind = 2 := fun e => c3 ⟨by rw [a1]; exact e, .inl c4⟩
        have k2 : ¬ b.kind = 2 := fun e => c4 (by rw [b1]; exact e)
        rw [hst] at h
        by_cases hm : s.st + 1 ≤ maxS
        · rw [if_pos hm, if_neg (fun e => k1 e.1), if_neg k2] at h
          by_cases c5 : A.kind ≠ B.kind ∨ A.name ≠ B.name ∨ A.n ≠ B.n ∨ A.kids.length ≠ B.kids.length
          · rw [if_pos c5] at h2
            cases h2
            have hr : r = false := by
              by_cases hc : b.kind = a.kind ∧ b.name = a.name ∧ b.n = a.n
              · rw [if_pos hc] at h
                by_cases hlen : b.kids.length = a.kids.length
                · exfalso
                  rw [a1, b1, a2, b2, a3, b3, ← a4.len, ← b4.len] at c5
                  rcases c5 with h9 | h9 | h9 | h9
                  · exact h9 hc.1.symm
                  · exact h9 hc.2.1.symm
                  · exact h9 hc.2.2.symm
                  · exact h9 hlen.symm
                · rw [if_neg hlen] at h; cases h; rfl
              · rw [if_neg hc] at h; cases h; rfl
            subst hr
            exact ⟨rfl, fun e => by cases e⟩
          · rw [if_neg c5] at h2
            have c5' : A.kind = B.kind ∧ A.name = B.name ∧ A.n = B.n ∧ A.kids.length = B.kids.length := by
              refine ⟨?_, ?_, ?_, ?_⟩ <;> exact Decidable.byContradiction fun e => c5 (by simp [e])
            obtain ⟨g1, g2, g3, g4⟩ := c5'
            rw [if_pos ⟨by rw [← b1, ← a1, g1], by rw [← b2, ← a2, g2], by rw [← b3, ← a3, g3]⟩, if_pos (by rw [b4.len, a4.len, g4]), if_pos fb.len] at h
            rw [kids_comm (unif_comm f)] at h
            have ea : All2 (Eqv s.b) a.kids A.kids := a4.mono fun t w e => ⟨w, e, e.idem⟩
            have eb : All2 (Eqv s.b) b.kids B.kids := b4.mono fun t w e => ⟨w, e, e.idem⟩
            exact kids_sim (one_sim G) a.kids b.kids A.kids B.kids s.step s' r r2 L q2 (fun t ht => ⟨fa.kid t ht, plain_kids pa t ht⟩) (fun t ht => ⟨fb.kid t ht, plain_kids pb t ht⟩) (fun t ht => plain_kids pA t ht) (fun t ht => plain_kids pB t ht) hi' hp hL ea eb (by omega) (by omega) h hx h2 ho
        · rw [if_neg hm] at h
          cases h
          omega
theorem kids_up {g g' : EqSt → Ty → Ty → Option (Bool × EqSt)} (h : ∀ q x y z, g q x y = some z → g' q x y = some z) : ∀ {l m : List Ty} {q : EqSt} {z : Bool × EqSt}, oneKids g l m q = some z → oneKids g' l m q = some z
  | [], _, q, z, k => by simp [oneKids] at k ⊢; exact k
  | _ :: _, [], q, z, k => by simp [oneKids] at k ⊢; exact k
  | x :: l, y :: m, q, z, k => by
    rw [oneKids] at k ⊢
    cases e : g q x y with
    | none => rw [e] at k; cases k
    | some a =>
      obtain ⟨r, q'⟩ := a
      rw [e] at k
      rw [h q x y _ e]
      cases r with
      | false => exact k
      | true => exact kids_up h k
theorem one_up : ∀ {f f' : Nat} {q : EqSt} {x y : Ty} {z : Bool × EqSt}, oneF f q x y = some z → f ≤ f' → oneF f' q x y = some z
  | 0, _, q, x, y, z, h, _ => by cases h
  | f + 1, 0, q, x, y, z, _, h => by omega
  | f + 1, f' + 1, q, x, y, z, h, hf => by
    rw [oneF] at h ⊢
    split
    · rw [if_pos ‹_›] at h; exact h
    · rw [if_neg ‹_›] at h
      split
      · rw [if_pos ‹_›] at h; exact h
      · rw [if_neg ‹_›] at h
        split
        · rw [if_pos ‹_›] at h; exact h
        · rw [if_neg ‹_›] at h
          split
          · rw [if_pos ‹_›] at h; exact h
          · rw [if_neg ‹_›] at h
            split
            · rw [if_pos ‹_›] at h; exact one_up h (by omega)
            · rw [if_neg ‹_›] at h
              split
              · rw [if_pos ‹_›] at h; exact h
              · rw [if_neg ‹_›] at h
                exact kids_up (fun q x y z e => one_up e (by omega)) h
/-- What is bound has no metas that are bound. -/
def IdL (L : Bd) : Prop := ∀ n u, bget L n = some u → ∀ m, hasM m u = true → bget L m = none
def FreeT (L : Bd) (t : Ty) : Prop := ∀ m, hasM m t = true → bget L m = none
mutual
theorem apR_free (L : Bd) (hL : IdL L) : ∀ (t : Ty), FreeT L (apR L t)
  | .mk k s n ks, m, h => by
    rw [apR] at h
    split at h
    · split at h
      · rename_i u hu; exact hL n u hu m h
      · rename_i hn
        rw [hasM, Bool.or_eq_true] at h
        rcases h with h | h
        · simp at h; rw [← h.2]; exact hn
        · exact apRL_free L hL ks m h
    · rename_i h2
      rw [hasM, Bool.or_eq_true] at h
      rcases h with h | h
      · simp [h2] at h
      · exact apRL_free L hL ks m h
theorem apRL_free (L : Bd) (hL : IdL L) : ∀ (l : List Ty) (m : Int), hasMs m (apRL L l) = true → bget L m = none
  | [], m, h => by rw [apRL, hasMs] at h; cases h
  | t :: l, m, h => by
    rw [apRL, hasMs, Bool.or_eq_true] at h
    rcases h with h | h
    · exact apR_free L hL t m h
    · exact apRL_free L hL l m h
end
mutual
theorem apR_id (L : Bd) : ∀ (t : Ty), FreeT L t → apR L t = t
  | .mk k s n ks, h => by
    have hk : apRL L ks = ks := apRL_id L ks fun m hm => h m (by rw [hasM, hm]; simp)
    rw [apR, hk]
    split
    · rename_i h2
      rw [h n (by rw [hasM]; simp [h2])]
    · rfl
theorem apRL_id (L : Bd) : ∀ (l : List Ty), (∀ m, hasMs m l = true → bget L m = none) → apRL L l = l
  | [], _ => by rw [apRL]
  | t :: l, h => by
    rw [apRL, apR_id L t fun m hm => h m (by rw [hasMs, hm]; rfl), apRL_id L l fun m hm => h m (by rw [hasMs, hm]; simp)]
end
theorem hasMs_of {m : Int} : ∀ {l : List Ty} {t : Ty}, t ∈ l → hasM m t = true → hasMs m l = true
  | x :: l, t, h, hm => by
    rw [hasMs]
    rcases List.mem_cons.1 h with rfl | h
    · rw [hm]; rfl
    · rw [hasMs_of h hm]; simp
theorem hasM_kid {m : Int} {t x : Ty} (h : x ∈ t.kids) (hm : hasM m x = true) : hasM m t = true := by
  rw [hasM_eq, hasMs_of h hm]; simp
theorem hasM_self {t : Ty} (h : t.kind = 2) : hasM t.n t = true := by rw [hasM_eq]; simp [h]
/-! Which metas there are. -/
def InU (U : List Int) (t : Ty) : Prop := ∀ m, hasM m t = true → m ∈ U
def InUL (U : List Int) (L : Bd) : Prop := ∀ n u, bget L n = some u → InU U u
mutual
theorem apR_in {U : List Int} {L : Bd} (hL : InUL U L) : ∀ (t : Ty), InU U t → InU U (apR L t)
  | .mk k s n ks, h, m, hm => by
    rw [apR] at hm
    split at hm
    · split at hm
      · rename_i u hu; exact hL n u hu m hm
      · rw [hasM, Bool.or_eq_true] at hm
        rcases hm with hm | hm
        · exact h m (by rw [hasM, hm]; rfl)
        · exact apRL_in hL ks (fun x hx => h x (by rw [hasM, hx]; simp)) m hm
    · rw [hasM, Bool.or_eq_true] at hm
      rcases hm with hm | hm
      · exact h m (by rw [hasM, hm]; rfl)
      · exact apRL_in hL ks (fun x hx => h x (by rw [hasM, hx]; simp)) m hm
theorem apRL_in {U : List Int} {L : Bd} (hL : InUL U L) : ∀ (l : List Ty), (∀ m, hasMs m l = true → m ∈ U) → ∀ m, hasMs m (apRL L l) = true → m ∈ U
  | [], _, m, hm => by rw [apRL, hasMs] at hm; cases hm
  | t :: l, h, m, hm => by
    rw [apRL, hasMs, Bool.or_eq_true] at hm
    rcases hm with hm | hm
    · exact apR_in hL t (fun x hx => h x (by rw [hasMs, hx]; rfl)) m hm
    · exact apRL_in hL l (fun x hx => h x (by rw [hasMs, hx]; simp)) m hm
end
/-- How many metas are not bound. -/
def unM (U : List Int) (L : Bd) : Nat := (U.filter fun n => (bget L n).isNone).length
theorem unM_less {L L' : Bd} {n : Int} (hn : bget L n = none) (hn' : bget L' n ≠ none) (h : ∀ m, bget L' m = none → bget L m = none) : ∀ {U : List Int}, n ∈ U → unM U L' + 1 ≤ unM U L := by
  have hle : ∀ U : List Int, unM U L' ≤ unM U L := by
    intro U
    induction U with
    | nil => exact Nat.le_refl _
    | cons a U ih =>
      unfold unM at ih ⊢
      rw [List.filter_cons, List.filter_cons]
      cases e : bget L' a with
      | none => rw [h a e]; simp; omega
      | some x =>
        cases e2 : bget L a with
        | none => simp; omega
        | some y => simp; omega
  intro U hU
  induction U with
  | nil => cases hU
  | cons a U ih =>
    rcases List.mem_cons.1 hU with rfl | hU
    · have := hle U
      unfold unM at this ⊢
      rw [List.filter_cons, List.filter_cons, hn]
      cases e : bget L' n with
      | none => exact absurd e hn'
      | some x => simp; omega
    · have ih := ih hU
      unfold unM at ih ⊢
      rw [List.filter_cons, List.filter_cons]
      cases e : bget L' a with
      | none => rw [h a e]; simp; omega
      | some x =>
        cases e2 : bget L a with
        | none => simp; omega
        | some y => simp; omega
/-- What holds of the equations. -/
structure QOk (U : List Int) (C : Nat) (L : Bd) : Prop where
  id : IdL L
  inu : InUL U L
  few : ∀ x ∈ L, Few x.2
  low : ∀ x ∈ L, tooB x.2 = false
  len : L.length + unM U L ≤ C
  pl : PlB L
theorem few_mk {k : Int} {s : ByteArray} {n : Int} {ks ks' : List Ty} (h : Few (.mk k s n ks)) (hl : ks'.length = ks.length) (hk : ∀ t ∈ ks', Few t) : Few (.mk k s n ks') := by
  cases h with
  | mk h1 h2 => exact .mk (by omega) hk
theorem apR_few {L : Bd} (hL : ∀ x ∈ L, Few x.2) : ∀ (t : Ty), Few t → Few (apR L t) := by
  have key : ∀ (n : Nat) (t : Ty), szF t ≤ n → Few t → Few (apR L t) := by
    intro n
    induction n with
    | zero => intro t h; cases t; rw [szF] at h; omega
    | succ n ih =>
      intro t h ht
      have hks : ∀ x ∈ t.kids.map (apR L), Few x := fun y hy => by
        obtain ⟨x, hx, rfl⟩ := List.mem_map.1 hy
        exact ih x (by
          cases t with
          | mk k s m ks =>
            rw [szF] at h
            have hx' : x ∈ ks := hx
            have := szL_mem hx'
            omega) (ht.kid x hx)
      have hmk : Few (.mk t.kind t.name t.n (t.kids.map (apR L))) := few_mk (ks := t.kids) (by rw [Ty.eta]; exact ht) (by simp) hks
      rw [apR_eq]
      split
      · split
        · rename_i u hu; exact hL _ (bget_mem hu)
        · exact hmk
      · exact hmk
  exact fun t => key (szF t) t (Nat.le_refl _)
theorem apR_plain {L : Bd} (hL : PlB L) : ∀ (t : Ty), plainF t = true → plainF (apR L t) = true := by
  have key : ∀ (n : Nat) (t : Ty), szF t ≤ n → plainF t = true → plainF (apR L t) = true := by
    intro n
    induction n with
    | zero => intro t h; cases t; rw [szF] at h; omega
    | succ n ih =>
      intro t h ht
      have hmk : plainF (.mk t.kind t.name t.n (t.kids.map (apR L))) = true := plain_mk (fun h2 => by
        obtain ⟨e1, e2⟩ := plain_meta ht h2
        rw [e1]; exact ⟨rfl, e2⟩) (fun y hy => by
        obtain ⟨x, hx, rfl⟩ := List.mem_map.1 hy
        exact ih x (by
          cases t with
          | mk k s m ks =>
            rw [szF] at h
            have hx' : x ∈ ks := hx
            have := szL_mem hx'
            omega) (plain_kids ht x hx))
      rw [apR_eq]
      split
      · split
        · rename_i u hu; exact hL _ (bget_mem hu)
        · exact hmk
      · exact hmk
  exact fun t => key (szF t) t (Nat.le_refl _)
theorem put_ok {U : List Int} {C : Nat} {L : Bd} (h : QOk U C L) {n : Int} {B : Ty} (hn : bget L n = none) (hnU : n ∈ U) (hB : FreeT L B) (hBU : InU U B) (hno : hasM n B = false) (fB : Few B) (lB : tooB B = false) (pB : plainF B = true) (ho : (putL n B L).2 = false) :
    QOk U C ((putL n B L).1 ++ [(n, B)]) ∧ unM U ((putL n B L).1 ++ [(n, B)]) + 1 ≤ unM U L := by
  have hone : ∀ (u : Ty) (m : Int), hasM m (apR [(n, B)] u) = true → (hasM m u = true ∧ m ≠ n) ∨ hasM m B = true := by
    have key : ∀ (k : Nat) (u : Ty), szF u ≤ k → ∀ m : Int, hasM m (apR [(n, B)] u) = true → (hasM m u = true ∧ m ≠ n) ∨ hasM m B = true := by
      intro k
      induction k with
      | zero => intro u hu; cases u; rw [szF] at hu; omega
      | succ k ih =>
        intro u hu m hm
        have hks : hasMs m (u.kids.map (apR [(n, B)])) = true → (hasM m u = true ∧ m ≠ n) ∨ hasM m B = true := fun hh => by
          have : ∀ l : List Ty, (∀ x ∈ l, x ∈ u.kids) → hasMs m (l.map (apR [(n, B)])) = true → (hasM m u = true ∧ m ≠ n) ∨ hasM m B = true := by
            intro l
            induction l with
            | nil => intro _ hh; rw [List.map_nil, hasMs] at hh; cases hh
            | cons a l ihl =>
              intro hl hh
              rw [List.map_cons, hasMs, Bool.or_eq_true] at hh
              rcases hh with hh | hh
              · have ha := hl a List.mem_cons_self
                rcases ih a (by
                  cases u with
                  | mk k' s m' ks =>
                    rw [szF] at hu
                    have hx' : a ∈ ks := ha
                    have := szL_mem hx'
                    omega) m hh with h1 | h1
                · exact .inl ⟨hasM_kid ha h1.1, h1.2⟩
                · exact .inr h1
              · exact ihl (fun x hx => hl x (List.mem_cons_of_mem _ hx)) hh
          exact this _ (fun x hx => hx) hh
        rw [apR_eq, bget_one] at hm
        split at hm
        · rename_i h2
          by_cases e : u.n = n
          · rw [if_pos e] at hm; exact .inr hm
          · rw [if_neg e] at hm
            simp only at hm
            rw [hasM, Bool.or_eq_true] at hm
            rcases hm with hm | hm
            · simp at hm
              refine .inl ⟨by rw [hasM_eq]; simp [hm.1, hm.2], by rw [← hm.2]; exact e⟩
            · exact hks hm
        · rename_i h2
          rw [hasM, Bool.or_eq_true] at hm
          rcases hm with hm | hm
          · simp [h2] at hm
          · exact hks hm
    exact fun u m => key (szF u) u (Nat.le_refl _) m
  have hget : ∀ m, bget ((putL n B L).1 ++ [(n, B)]) m = match bget L m with
      | some u => some (apR [(n, B)] u)
      | none => if m = n then some B else none := fun m => by
    rw [bget_app, putL_ok ho, bget_map]
    cases bget L m <;> rfl
  have hnone : ∀ m, bget L m = none → m ≠ n → bget ((putL n B L).1 ++ [(n, B)]) m = none := fun m h1 h2 => by
    rw [hget, h1]
    simp only
    rw [if_neg h2]
  have hless : unM U ((putL n B L).1 ++ [(n, B)]) + 1 ≤ unM U L := by
    refine unM_less hn ?_ (fun m hm => ?_) hnU
    · rw [hget, hn]; simp
    · rw [hget] at hm
      cases e : bget L m with
      | none => rfl
      | some u => rw [e] at hm; cases hm
  have hlen : (putL n B L).1.length = L.length := by rw [putL_ok ho, List.length_map]
  refine ⟨⟨fun k u hk m hm => ?_, fun k u hk m hm => ?_, fun x hx => ?_, fun x hx => ?_, ?_, fun x hx => ?_⟩, hless⟩
  · rw [hget] at hk
    cases e : bget L k with
    | some u0 =>
      rw [e] at hk
      cases hk
      rcases hone u0 m hm with h1 | h1
      · exact hnone m (h.id k u0 e m h1.1) h1.2
      · exact hnone m (hB m h1) (fun e => by rw [e, hno] at h1; cases h1)
    | none =>
      rw [e] at hk
      simp only at hk
      split at hk
      · cases hk
        exact hnone m (hB m hm) (fun e => by rw [e, hno] at hm; cases hm)
      · cases hk
  · rw [hget] at hk
    cases e : bget L k with
    | some u0 =>
      rw [e] at hk
      cases hk
      rcases hone u0 m hm with h1 | h1
      · exact h.inu k u0 e m h1.1
      · exact hBU m h1
    | none =>
      rw [e] at hk
      simp only at hk
      split at hk
      · cases hk; exact hBU m hm
      · cases hk
  · rcases List.mem_append.1 hx with hx | hx
    · rw [putL_ok ho] at hx
      obtain ⟨y, hy, rfl⟩ := List.mem_map.1 hx
      exact apR_few (fun z hz => by rw [List.mem_singleton.1 hz]; exact fB) _ (h.few y hy)
    · rw [List.mem_singleton.1 hx]; exact fB
  · rcases List.mem_append.1 hx with hx | hx
    · have key : ∀ {M : Bd}, (putL n B M).2 = false → ∀ x ∈ (putL n B M).1, tooB x.2 = false := by
        intro M
        induction M with
        | nil => intro _ x hx; cases hx
        | cons a M ih =>
          obtain ⟨k, t⟩ := a
          intro ho x hx
          rw [putL] at ho hx
          by_cases c : tooB (apR [(n, B)] t) = true
          · rw [if_pos c] at ho; cases ho
          · rw [if_neg c] at ho hx
            rcases List.mem_cons.1 hx with rfl | hx
            · cases hq : tooB (apR [(n, B)] t) with
              | false => rfl
              | true => exact absurd hq c
            · exact ih ho x hx
      exact key ho x hx
    · rw [List.mem_singleton.1 hx]; exact lB
  · rw [List.length_append, hlen]
    have := h.len
    simp
    omega
  · rcases List.mem_append.1 hx with hx | hx
    · rw [putL_ok ho] at hx
      obtain ⟨y, hy, rfl⟩ := List.mem_map.1 hx
      exact apR_plain (fun z hz => by rw [List.mem_singleton.1 hz]; exact pB) _ (h.pl y hy)
    · rw [List.mem_singleton.1 hx]; exact pB
/-- What one pair leaves. -/
def OneOk (U : List Int) (C : Nat) (L : Bd) (q : EqSt) : Prop := q.o = true ∨ (q.o = false ∧ QOk U C q.L ∧ (q.L = L ∨ unM U q.L < unM U L))
structure GdT (U : List Int) (t : Ty) : Prop where
  few : Few t
  pl : plainF t = true
  inu : InU U t
theorem GdT.kid {U : List Int} {t x : Ty} (h : GdT U t) (hx : x ∈ t.kids) : GdT U x := ⟨h.few.kid x hx, plain_kids h.pl x hx, fun m hm => h.inu m (hasM_kid hx hm)⟩
def EndsP (U : List Int) (C : Nat) (L : Bd) (x y : Ty) : Prop := ∃ f r q, oneF f ⟨L, false⟩ x y = some (r, q) ∧ (r = true → OneOk U C L q)
theorem kids_end {U : List Int} {C : Nat} {L : Bd} (M : ∀ L', QOk U C L' → unM U L' < unM U L → ∀ x y, GdT U x → GdT U y → EndsP U C L' x y) (h : QOk U C L) : ∀ (l m : List Ty) (q : EqSt), (∀ x ∈ l, GdT U x) → (∀ y ∈ m, GdT U y) → (∀ x ∈ l, ∀ y ∈ m, EndsP U C L x y) → OneOk U C L q →
    ∃ f r q', oneKids (oneF f) l m q = some (r, q') ∧ (r = true → OneOk U C L q')
  | [], _, q, _, _, _, hq => ⟨0, true, q, by simp [oneKids], fun _ => hq⟩
  | _ :: _, [], q, _, _, _, hq => ⟨0, true, q, by simp [oneKids], fun _ => hq⟩
  | x :: l, y :: m, q, hl, hm, hE, hq => by
    have h1 : ∃ f r q', oneF f q x y = some (r, q') ∧ (r = true → OneOk U C L q') := by
      rcases hq with ho | ⟨ho, hQ, hc⟩
      · exact ⟨1, true, q, by rw [oneF, if_pos ho], fun _ => .inl ho⟩
      · have hqe : q = ⟨q.L, false⟩ := by cases q; simp only at ho; rw [ho]
        rcases hc with hc | hc
        · obtain ⟨f, r, q', e, hr⟩ := hE x List.mem_cons_self y List.mem_cons_self
          rw [hqe, hc]
          exact ⟨f, r, q', e, hr⟩
        · obtain ⟨f, r, q', e, hr⟩ := M q.L hQ hc x y (hl x List.mem_cons_self) (hm y List.mem_cons_self)
          rw [hqe]
          refine ⟨f, r, q', e, fun h9 => ?_⟩
          rcases hr h9 with h8 | ⟨h8, h7, h6⟩
          · exact .inl h8
          · refine .inr ⟨h8, h7, .inr ?_⟩
            rcases h6 with h6 | h6
            · rw [h6]; exact hc
            · omega
    obtain ⟨f, r, q', e, hr⟩ := h1
    cases r with
    | false => exact ⟨f, false, q', by rw [oneKids, e], fun h => by cases h⟩
    | true =>
      obtain ⟨f2, r2, q2, e2, hr2⟩ := kids_end M h l m q' (fun t ht => hl t (List.mem_cons_of_mem _ ht)) (fun t ht => hm t (List.mem_cons_of_mem _ ht)) (fun a ha b hb => hE a (List.mem_cons_of_mem _ ha) b (List.mem_cons_of_mem _ hb)) (hr rfl)
      refine ⟨max f f2, r2, q2, ?_, hr2⟩
      rw [oneKids, one_up e (Nat.le_max_left f f2)]
      exact kids_up (fun q x y z e => one_up e (Nat.le_max_right f f2)) e2
theorem sz_pos (t : Ty) : 0 < szF t := by cases t; rw [szF]; omega
theorem sz_kid {t x : Ty} (h : x ∈ t.kids) : szF x < szF t := by
  cases t with
  | mk k s n ks =>
    have := szL_mem (l := ks) h
    rw [szF]
    omega
theorem too_f {t : Ty} (h : ¬ tooB t = true) : tooB t = false := by cases e : tooB t with
  | false => rfl
  | true => exact absurd e h
theorem QOk.app {U : List Int} {C : Nat} {L : Bd} (h : QOk U C L) {t : Ty} (ht : GdT U t) : GdT U (apR L t) := ⟨apR_few h.few t ht.few, apR_plain h.pl t ht.pl, apR_in h.inu t ht.inu⟩
theorem bind_end {U : List Int} {C : Nat} (hC : C ≤ 1000000) {L : Bd} (h : QOk U C L) {A B : Ty} (gA : GdT U A) (gB : GdT U B) (fA : FreeT L A) (fB : FreeT L B) (h2 : A.kind = 2) (lB : tooB B = false) :
    ∃ r q, (if hasM A.n B = true then some (false, (⟨L, false⟩ : EqSt)) else if L.length ≤ 1000000 then some (true, ⟨(putL A.n B L).1 ++ [(A.n, B)], (putL A.n B L).2⟩) else none) = some (r, q) ∧ (r = true → OneOk U C L q) := by
  by_cases c : hasM A.n B = true
  · exact ⟨false, _, by rw [if_pos c], fun e => by cases e⟩
  · have hlen := h.len
    refine ⟨true, _, by rw [if_neg c, if_pos (by omega)], fun _ => ?_⟩
    cases ho : (putL A.n B L).2 with
    | true => exact .inl rfl
    | false =>
      obtain ⟨h3, h4⟩ := put_ok h (fA A.n (hasM_self h2)) (gA.inu A.n (hasM_self h2)) fB gB.inu (by cases e : hasM A.n B with
        | false => rfl
        | true => exact absurd e c) gB.few lB gB.pl ho
      exact .inr ⟨rfl, h3, .inr (by simp only; omega)⟩
theorem one_step {U : List Int} {C : Nat} (hC : C ≤ 1000000) {L : Bd} (h : QOk U C L) (M : ∀ L', QOk U C L' → unM U L' < unM U L → ∀ x y, GdT U x → GdT U y → EndsP U C L' x y) : ∀ (k : Nat) (x y : Ty), szF (apR L x) ≤ k → GdT U x → GdT U y → EndsP U C L x y := by
  intro k
  induction k with
  | zero => intro x y hk; have := sz_pos (apR L x); omega
  | succ k ih =>
    intro x y hk gx gy
    have gA := h.app gx
    have gB := h.app gy
    have fA := apR_free L h.id x
    have fB := apR_free L h.id y
    have iA := apR_id L _ fA
    have iB := apR_id L _ fB
    have hsame : OneOk U C L ⟨L, false⟩ := .inr ⟨rfl, h, .inl rfl⟩
    generalize hA : apR L x = A at *
    generalize hB : apR L y = B at *
    by_cases c1 : tooB A = true ∨ tooB B = true
    · exact ⟨1, true, _, by rw [oneF, if_neg (by simp)]; simp only [hA, hB]; rw [if_pos c1], fun _ => .inl rfl⟩
    by_cases c2 : sameF A B = true
    · exact ⟨1, true, _, by rw [oneF, if_neg (by simp)]; simp only [hA, hB]; rw [if_neg c1, if_pos c2], fun _ => hsame⟩
    by_cases c3 : A.kind = 2 ∧ (B.kind ≠ 2 ∨ A.n > B.n)
    · obtain ⟨r, q, e, hr⟩ := bind_end hC h gA gB fA fB c3.1 (too_f fun e => c1 (.inr e))
      exact ⟨1, r, q, by rw [oneF, if_neg (by simp)]; simp only [hA, hB]; rw [if_neg c1, if_neg c2, if_pos c3]; exact e, hr⟩
    by_cases c4 : B.kind = 2
    · obtain ⟨r, q, e, hr⟩ := bind_end hC h gB gA fB fA c4 (too_f fun e => c1 (.inl e))
      have c1' : ¬ (tooB B = true ∨ tooB A = true) := fun e => c1 e.symm
      have c2' : ¬ sameF B A = true := fun e => c2 ((sameF_iff A B).2 ((sameF_iff B A).1 e).symm)
      have c3' : B.kind = 2 ∧ (A.kind ≠ 2 ∨ B.n > A.n) := by
        refine ⟨c4, ?_⟩
        by_cases k2 : A.kind = 2
        · right
          by_cases e : A.n = B.n
          · exfalso
            apply c2
            rw [sameF_iff]
            obtain ⟨a1, a2⟩ := plain_meta gA.pl k2
            obtain ⟨b1, b2⟩ := plain_meta gB.pl c4
            rw [← Ty.eta A, ← Ty.eta B, a1, a2, b1, b2, k2, c4, e]
          · have : ¬ A.n > B.n := fun e => c3 ⟨k2, .inr e⟩
            omega
        · exact .inl k2
      refine ⟨2, r, q, ?_, hr⟩
      rw [oneF, if_neg (by simp)]
      simp only [hA, hB]
      rw [if_neg c1, if_neg c2, if_neg c3, if_pos c4, oneF, if_neg (by simp)]
      simp only [iA, iB]
      rw [if_neg c1', if_neg c2', if_pos c3']
      exact e
    by_cases c5 : A.kind ≠ B.kind ∨ A.name ≠ B.name ∨ A.n ≠ B.n ∨ A.kids.length ≠ B.kids.length
    · exact ⟨1, false, _, by rw [oneF, if_neg (by simp)]; simp only [hA, hB]; rw [if_neg c1, if_neg c2, if_neg c3, if_neg c4, if_pos c5], fun e => by cases e⟩
    · obtain ⟨f, r, q, e, hr⟩ := kids_end M h A.kids B.kids ⟨L, false⟩ (fun t ht => gA.kid ht) (fun t ht => gB.kid ht) (fun a ha b hb => by
        refine ih a b ?_ (gA.kid ha) (gB.kid hb)
        rw [apR_id L a fun m hm => fA m (hasM_kid ha hm)]
        have := sz_kid ha
        omega) hsame
      exact ⟨f + 1, r, q, by rw [oneF, if_neg (by simp)]; simp only [hA, hB]; rw [if_neg c1, if_neg c2, if_neg c3, if_neg c4, if_neg c5]; exact e, hr⟩
theorem one_end (U : List Int) (C : Nat) (hC : C ≤ 1000000) : ∀ (N : Nat) (L : Bd), QOk U C L → unM U L ≤ N → ∀ x y, GdT U x → GdT U y → EndsP U C L x y := by
  intro N
  induction N with
  | zero =>
    intro L hL hN x y gx gy
    exact one_step hC hL (fun L' _ h => by omega) _ x y (Nat.le_refl _) gx gy
  | succ N ih =>
    intro L hL hN x y gx gy
    exact one_step hC hL (fun L' hQ h => ih L' hQ (by omega)) _ x y (Nat.le_refl _) gx gy
/-- What a later state has more. -/
structure Ext4 (s s' : St) : Prop where
  fr : s'.fr = s.fr
  more : ∃ m : Bd, s'.b = s.b ++ m ∧ s'.tr = s.tr ++ m.map (·.1)
  keys : (s.b.map (·.1)).Nodup → (s'.b.map (·.1)).Nodup
theorem Ext4.refl (s : St) : Ext4 s s := ⟨rfl, ⟨[], by simp, by simp⟩, fun h => h⟩
theorem Ext4.st {s s' : St} (h1 : s'.fr = s.fr) (h2 : s'.b = s.b) (h3 : s'.tr = s.tr) : Ext4 s s' := ⟨h1, ⟨[], by simp [h2], by simp [h3]⟩, fun h => by rw [h2]; exact h⟩
theorem Ext4.trans {s s1 s2 : St} (h : Ext4 s s1) (k : Ext4 s1 s2) : Ext4 s s2 := ⟨k.fr.trans h.fr, by
  obtain ⟨l, h1, h2⟩ := h.more
  obtain ⟨r, k1, k2⟩ := k.more
  exact ⟨l ++ r, by rw [k1, h1, List.append_assoc], by rw [k2, h2, List.append_assoc, List.map_append]⟩, fun e => k.keys (h.keys e)⟩
theorem bget_none {b : Bd} {n : Int} (h : bget b n = none) : n ∉ b.map (·.1) := fun hm => by
  obtain ⟨x, hx, e⟩ := List.mem_map.1 hm
  unfold bget at h
  rw [Option.map_eq_none_iff, List.find?_eq_none] at h
  have := h x hx
  simp [isN, e] at this
theorem meta_ext4 {f : Nat} {a b : Ty} {s s' : St} {r : Bool} (hn : bget s.b a.n = none) (h : metaF f a b s = some (r, s')) : Ext4 s s' := by
  unfold metaF at h
  split at h
  · cases h; exact Ext4.refl _
  · split at h
    · cases h
    · cases h; exact Ext4.st rfl rfl rfl
    · split at h
      · cases h
        refine ⟨rfl, ⟨[(a.n, b)], rfl, rfl⟩, fun e => ?_⟩
        show ((s.b ++ [(a.n, b)]).map (·.1)).Nodup
        rw [List.map_append, List.nodup_append]
        refine ⟨e, by simp, fun x hx y hy e2 => ?_⟩
        simp at hy
        subst hy
        subst e2
        exact bget_none hn hx
      · cases h
theorem kids_ext4 {g : Ty → Ty → St → Option (Bool × St)} (hg : ∀ x y s s' r, g x y s = some (r, s') → Ext4 s s') : ∀ (l m : List Ty) (s s' : St) (r : Bool), kidsF g l m s = some (r, s') → Ext4 s s'
  | [], _, s, s', r, h => by simp [kidsF] at h; rw [← h.2]; exact Ext4.refl _
  | _ :: _, [], s, s', r, h => by simp [kidsF] at h; rw [← h.2]; exact Ext4.refl _
  | x :: l, y :: m, s, s', r, h => by
    rw [kidsF] at h
    cases hx : g x y s with
    | none => rw [hx] at h; cases h
    | some q =>
      obtain ⟨r0, s0⟩ := q
      rw [hx] at h
      cases r0 with
      | true => exact (hg _ _ _ _ _ hx).trans (kids_ext4 hg l m s0 s' r h)
      | false => cases h; exact hg _ _ _ _ _ hx
theorem unif_ext4 : ∀ (f : Nat) (x y : Ty) (s s' : St) (r : Bool), unifF f x y s = some (r, s') → Ext4 s s'
  | 0, x, y, s, s', r, h => by cases h
  | f + 1, x, y, s, s', r, h => by
    have hs : Ext4 s s.step := Ext4.st rfl rfl rfl
    rw [unifF] at h
    cases ha : headF f s.b x with
    | none => rw [ha] at h; cases h
    | some a =>
    cases hb : headF f s.b y with
    | none => rw [ha, hb] at h; cases h
    | some b =>
    rw [ha, hb] at h
    simp only at h
    split at h
    · split at h
      · rename_i hA
        exact hs.trans (meta_ext4 (s := s.step) (head_free ha hA.1) h)
      · split at h
        · rename_i hB
          exact hs.trans (meta_ext4 (s := s.step) (head_free hb hB) h)
        · split at h
          · split at h
            · split at h
              · exact hs.trans (kids_ext4 (unif_ext4 f) _ _ _ _ _ h)
              · cases h
            · cases h; exact hs
          · cases h; exact hs
    · cases h; exact hs
/-! What a failure takes back. -/
theorem bdel_at {b m : Bd} {x : Int × Ty} (h : ((b ++ x :: m).map (·.1)).Nodup) : bdel (b ++ x :: m) x.1 = b ++ m := by
  have hb : ∀ y ∈ b, isN x.1 y = false := fun y hy => by
    rw [List.map_append, List.nodup_append] at h
    have := h.2.2 y.1 (List.mem_map_of_mem hy) x.1 (by simp)
    simp [isN, this]
  have hi : (b ++ x :: m).findIdx? (isN x.1) = some b.length := by
    rw [List.findIdx?_append]
    have h1 : b.findIdx? (isN x.1) = none := by
      rw [List.findIdx?_eq_none_iff]
      exact hb
    rw [h1]
    simp [List.findIdx?_cons, isN]
  unfold bdel
  rw [hi]
  simp only
  rw [List.eraseIdx_append_of_length_le (Nat.le_refl _)]
  simp
theorem undo_ok : ∀ {m b : Bd}, ((b ++ m).map (·.1)).Nodup → (m.map (·.1)).foldl bdel (b ++ m) = b
  | [], b, h => by simp
  | x :: m, b, h => by
    rw [List.map_cons, List.foldl_cons, bdel_at h]
    refine undo_ok ?_
    rw [List.map_append, List.map_cons] at h
    rw [List.map_append]
    exact h.sublist (by simp)
/-- The store behind a failure. -/
theorem undo_unif {f : Nat} {x y : Ty} {s s' : St} {r : Bool} (h : unifF f x y s = some (r, s')) (hk : (s.b.map (·.1)).Nodup) : (s'.tr.drop s.tr.length).foldl bdel s'.b = s.b ∧ s'.tr.take s.tr.length = s.tr := by
  have he := unif_ext4 f x y s s' r h
  obtain ⟨m, h1, h2⟩ := he.more
  have h3 := he.keys hk
  rw [h1] at h3
  refine ⟨?_, by rw [h2]; simp⟩
  rw [h2, h1, List.drop_left]
  exact undo_ok h3
/-! Applied. -/
def ApH (b : Bd) (f : Nat) (g : Ty → Int → Int → Option (Ty × Int × Int)) : Prop := ∀ (t : Ty) (st pa : Int) (u : Ty) (st' pa' : Int), Few t → 0 ≤ st → 0 ≤ pa → st ≤ pa + 2000000 → pa ≤ 20000000000 → (5000 - pa).toNat + b.length + 2 ≤ f → g t st pa = some (u, st', pa') → pa' ≤ 5000 → st' ≤ maxS → Ap b t u
theorem appl_ap {b : Bd} {f : Nat} {g : Ty → Int → Int → Option (Ty × Int × Int)} (hg : AppS b f g) (hh : ApH b f g) (p1 : Int) (h1 : 0 ≤ p1) (h2 : p1 ≤ 5000) (hf : (5000 - p1).toNat + b.length + 2 ≤ f) : ∀ (l : List Ty) (st pa : Int) (r : List Ty) (st' pa' : Int), (∀ t ∈ l, Few t) → l.length ≤ 1000000 → 0 ≤ st → p1 ≤ pa → st ≤ pa + 2000000 → pa + l.length ≤ 10000000000 → appF.appL g l st pa = some (r, st', pa') → pa' ≤ 5000 → st' ≤ maxS → All2 (Ap b) l r
  | [], st, pa, r, st', pa', hl, hn, h0, hs, hq, hu, h, _, _ => by rw [appF.appL] at h; cases h; exact .nil
  | t :: l, st, pa, r, st', pa', hl, hn, h0, hs, hq, hu, h, hp, hm => by
    rw [List.length_cons] at hn hu
    obtain ⟨u, st0, pa0, e, a1, a2, a3, a4, a5⟩ := hg t st pa (hl t List.mem_cons_self) h0 (by omega) (by omega) (by omega) (by omega)
    rw [appF.appL, e] at h
    have hup : pa0 ≤ max (pa + 1) (5001 + 1000000 * (5000 - p1)) := by
      unfold upP at a4
      split at a4 <;> omega
    obtain ⟨r2, st2, pa2, e', c1, c2, c3, c4, c5, c6⟩ := appl_some hg p1 h1 h2 hf l st0 pa0 (fun t ht => hl t (List.mem_cons_of_mem _ ht)) (by omega) (by omega) (by omega) (by omega) (by omega)
    simp only [e'] at h
    cases h
    exact .cons (hh t st pa u st0 pa0 (hl t List.mem_cons_self) h0 (by omega) (by omega) (by omega) (by omega) e (by omega) (by omega)) (appl_ap hg hh p1 h1 h2 hf l st0 pa0 r2 st' pa' (fun t ht => hl t (List.mem_cons_of_mem _ ht)) (by omega) (by omega) (by omega) (by omega) (by omega) e' hp hm)
theorem app_ap {b : Bd} (hb : InvB b) : ∀ (f : Nat), ApH b f (appF b f)
  | 0 => fun t st pa u st' pa' _ _ _ _ _ h => by omega
  | f + 1 => fun t st pa u st' pa' ht h0 hp0 hst hpa hf h hp hm => by
    obtain ⟨v, hv, fv⟩ := head_some' hb (f := f) (t := t) (by omega) ht
    have e1 : IntKind.i64.wrap (pa + 1) = pa + 1 := by rw [IntKind.wrap_i64]; omega
    have e2 := step_n h0 (by omega)
    have hmS : maxS = 1048576 := rfl
    rw [appF, hv] at h
    simp only at h
    rw [e1, e2] at h
    by_cases hq : pa + 1 > 5000
    · rw [if_pos hq] at h; cases h; omega
    · rw [if_neg hq] at h
      by_cases hs : st + 1 ≤ maxS
      · rw [if_pos hs, if_pos fv.len] at h
        have hfl := fv.len
        cases e : appF.appL (appF b f) v.kids (st + 1) (pa + 1) with
        | none => rw [e] at h; cases h
        | some z =>
          obtain ⟨ks, st2, pa2⟩ := z
          rw [e] at h
          cases h
          exact Ap.mk hv (appl_ap (app_some hb f) (app_ap hb f) (pa + 1) (by omega) (by omega) (by omega) v.kids (st + 1) (pa + 1) ks st' pa' fv.kid hfl (by omega) (by omega) (by omega) (by omega) e hp hm)
      · rw [if_neg hs] at h; cases h; omega
theorem wrapI {i : Nat} (h : i ≤ 1000000000000) : IntKind.i64.wrap ((i : Int) + 1) = (i : Int) + 1 := by rw [IntKind.wrap_i64]; omega
theorem c1k (i : Nat) : ((i + 1 : Nat) : Int) = (i : Int) + 1 := by omega
/-! SameType. -/
def SameB (a : Ty) : Prop := ∀ b : Ty, Few b → ev (q8 (iv a.kind) (sv a.name) (iv a.n) (tys a.kids) (iv b.kind) (sv b.name) (iv b.n) (tys b.kids)) = some (0, [bv (sameF a b)])
theorem sameF_eq (a b : Ty) : sameF a b = (decide (a.kind = b.kind) && (decide (a.name = b.name) && (decide (a.n = b.n) && sameL a.kids b.kids))) := by cases a; cases b; rw [sameF]; rfl
theorem sameb_l (l m : List Ty) (hlen : l.length = m.length) (hb : l.length ≤ 1000000) (fm : ∀ t ∈ m, Few t) : ∀ (u v : List Ty), (∀ t ∈ u, SameB t) → ∀ (i : Nat), l.drop i = u → m.drop i = v →
    ev (q25b0a (iv (i : Int)) (tys l) (tys m)) = some (if sameL u v = true then (1, []) else (0, [bv false]))
  | [], v, _, i, hd, hd2 => by
    have hi := drop_nil hd
    have hv : v = [] := by
      rw [← hd2]
      have := congrArg List.length hd
      simp at this
      exact List.drop_eq_nil_of_le (by omega)
    subst hv
    refine Evl.of ?_
    rw [h25b0a, g25b0a, sameL]
    simp [lenK_tys, hi]
  | x :: u, v, hu, i, hd, hd2 => by
    obtain ⟨hx, hi, hd'⟩ := drop_cons hd
    have hlt : i < m.length := by omega
    have hyx : ∃ y, m[i]? = some y := ⟨_, List.getElem?_eq_getElem hlt⟩
    obtain ⟨y, hy⟩ := hyx
    have hv : v = y :: m.drop (i + 1) := by
      rw [← hd2, List.drop_eq_getElem_cons hlt]
      rw [List.getElem?_eq_getElem hlt] at hy
      cases hy; rfl
    subst hv
    have ih := sameb_l l m hlen hb fm u _ (fun t ht => hu t (List.mem_cons_of_mem _ ht)) (i + 1) hd' rfl
    have h8 := hu x List.mem_cons_self y (fm y (List.mem_of_getElem? hy))
    have e0 := wrapI (i := i) (by omega)
    rw [c1k] at ih
    refine Evl.of ?_
    rw [h25b0a, g25b0a, sameL]
    cases hs : sameF x y with
    | true => rw [hs] at h8; simp [lenK_tys, hi, idxK_tys hx, idxK_tys hy, h8, e0, ih]
    | false => rw [hs] at h8; simp [lenK_tys, hi, idxK_tys hx, idxK_tys hy, h8]
theorem sameL_len : ∀ {a b : List Ty}, sameL a b = true → a.length = b.length
  | [], [], _ => rfl
  | a :: l, b :: m, h => by
    rw [sameL, Bool.and_eq_true] at h
    rw [List.length_cons, List.length_cons, sameL_len h.2]
  | [], _ :: _, h => by rw [sameL] at h; cases h
  | _ :: _, [], h => by rw [sameL] at h; cases h
theorem sameb_ev : ∀ (n : Nat) (a : Ty), szF a ≤ n → Few a → SameB a := by
  intro n
  induction n with
  | zero => intro a h; have := sz_pos a; omega
  | succ n ih =>
    intro a h fa b fb
    have hk : ∀ t ∈ a.kids, SameB t := fun t ht => ih t (by have := sz_kid ht; omega) (fa.kid t ht)
    have h25 : ev (q25 (tys a.kids) (tys b.kids)) = some (0, [bv (sameL a.kids b.kids)]) := by
      by_cases hl : a.kids.length = b.kids.length
      · have h1 := sameb_l a.kids b.kids hl fa.len fb.kid a.kids b.kids hk 0 rfl rfl
        simp only [Int.natCast_zero, Int.ofNat_zero] at h1
        have hl' : (a.kids.length : Int) = b.kids.length := by omega
        refine Evl.of ?_
        rw [h25, g25]
        cases hs : sameL a.kids b.kids with
        | true => rw [if_pos hs] at h1; simp [lenK_tys, hl', h1]
        | false => rw [if_neg (by rw [hs]; simp)] at h1; simp [lenK_tys, hl', h1]
      · have hl' : ¬ (a.kids.length : Int) = b.kids.length := by omega
        have hs : sameL a.kids b.kids = false := by
          cases e : sameL a.kids b.kids with
          | false => rfl
          | true => exact absurd (sameL_len e) hl
        refine Evl.of ?_
        rw [h25, g25, hs]
        simp [lenK_tys, hl']
    refine Evl.of ?_
    rw [h8, g8, sameF_eq]
    by_cases h1 : a.kind = b.kind
    · by_cases h2 : a.name = b.name
      · by_cases h3 : a.n = b.n
        · cases hs : sameL a.kids b.kids with
          | true => rw [hs] at h25; simp [h1, h2, h3, h25]
          | false => rw [hs] at h25; simp [h1, h2, h3, h25]
        · simp [h1, h2, h3]
      · simp [h1, h2]
    · simp [h1]
theorem same_b (a b : Ty) (fa : Few a) (fb : Few b) : ev (q8 (iv a.kind) (sv a.name) (iv a.n) (tys a.kids) (iv b.kind) (sv b.name) (iv b.n) (tys b.kids)) = some (0, [bv (sameF a b)]) := sameb_ev _ a (Nat.le_refl _) fa b fb
/-! How many parts. -/
theorem great_l (A B C : PV) (most : Int) (h0 : 0 ≤ most) (hm : most ≤ 5000) (l : List Ty) (hb : l.length ≤ 1000000) (hg : ∀ t ∈ l, ∀ m : Int, 0 ≤ m → m ≤ 5000 → ev (q43 (iv t.kind) (sv t.name) (iv t.n) (tys t.kids) (iv m)) = some (0, [iv (min (szF t : Int) (m + 1))])) : ∀ (u : List Ty) (i : Nat) (n : Int), l.drop i = u → 1 ≤ n → n ≤ most + 1 →
    ev (q43b0a (iv (i : Int)) (iv n) (iv most) A B C (tys l)) = some (0, [A, B, C, tys l, iv (min (n + (szL u : Int)) (most + 1))])
  | [], i, n, hd, h1, h2 => by
    have hi := drop_nil hd
    have hs : min (n + ((szL [] : Nat) : Int)) (most + 1) = n := by rw [szL]; simp; omega
    rw [hs]
    refine Evl.of ?_
    rw [h43b0a, g43b0a]
    simp [lenK_tys, hi]
  | x :: u, i, n, hd, h1, h2 => by
    obtain ⟨hx, hi, hd'⟩ := drop_cons hd
    have e0 := wrapI (i := i) (by omega)
    have hp := sz_pos x
    by_cases hn : n ≤ most
    · have e1 : IntKind.i64.wrap (most - n) = most - n := by rw [IntKind.wrap_i64]; omega
      have hgx := hg x (List.mem_of_getElem? hx) (most - n) (by omega) (by omega)
      have e2 : IntKind.i64.wrap (n + min (szF x : Int) (most - n + 1)) = n + min (szF x : Int) (most - n + 1) := by rw [IntKind.wrap_i64]; omega
      have ih := great_l A B C most h0 hm l hb hg u (i + 1) (n + min (szF x : Int) (most - n + 1)) hd' (by omega) (by omega)
      have hs : min (n + ((szL (x :: u) : Nat) : Int)) (most + 1) = min (n + min (szF x : Int) (most - n + 1) + (szL u : Int)) (most + 1) := by rw [szL]; omega
      rw [hs]
      rw [c1k] at ih
      refine Evl.of ?_
      rw [h43b0a, g43b0a]
      simp [lenK_tys, hi, hn, idxK_tys hx, e1, hgx, e2, e0, ih]
    · have hs : min (n + ((szL (x :: u) : Nat) : Int)) (most + 1) = n := by rw [szL]; omega
      rw [hs]
      refine Evl.of ?_
      rw [h43b0a, g43b0a]
      simp [lenK_tys, hi, hn]
theorem great_ev : ∀ (k : Nat) (t : Ty), szF t ≤ k → Few t → ∀ m : Int, 0 ≤ m → m ≤ 5000 → ev (q43 (iv t.kind) (sv t.name) (iv t.n) (tys t.kids) (iv m)) = some (0, [iv (min (szF t : Int) (m + 1))]) := by
  intro k
  induction k with
  | zero => intro t h; have := sz_pos t; omega
  | succ k ih =>
    intro t h ft m h0 hm
    have h1 := great_l (iv t.kind) (sv t.name) (iv t.n) m h0 hm t.kids ft.len (fun x hx m h0 hm => ih x (by have := sz_kid hx; omega) (ft.kid x hx) m h0 hm) t.kids 0 1 rfl (by omega) (by omega)
    simp only [Int.natCast_zero, Int.ofNat_zero] at h1
    have hs : (szF t : Int) = 1 + (szL t.kids : Int) := by cases t; rw [szF]; simp <;> omega
    rw [hs]
    refine Evl.of ?_
    rw [h43, g43]
    simp [h1]
theorem too_ev (t : Ty) (ft : Few t) : ev (q27 (iv t.kind) (sv t.name) (iv t.n) (tys t.kids)) = some (0, [bv (tooB t)]) := by
  have h1 := great_ev _ t (Nat.le_refl _) ft 5000 (by omega) (by omega)
  refine Evl.of ?_
  rw [h27, g27]
  unfold tooB
  by_cases h : 5000 < szF t
  · have h2 : min (szF t : Int) (5000 + 1) = 5001 := by omega
    rw [h2] at h1
    simp [h1, h]
  · have h2 : min (szF t : Int) (5000 + 1) = (szF t : Int) := by omega
    rw [h2] at h1
    have h3 : ¬ (5000 : Int) < (szF t : Int) := by omega
    simp [h1, h, h3]
/-! HasInt. -/
theorem hasI_l (l : List Int) (hb : l.length ≤ 1000000000) (n : Int) : ∀ (m : List Int) (i : Nat), l.drop i = m →
    ev (q28b0a (iv (i : Int)) (ints l) (iv n)) = some (if n ∈ m then (0, [bv true]) else (1, []))
  | [], i, hd => by
    have hi := drop_nil hd
    refine Evl.of ?_
    rw [h28b0a, g28b0a]
    simp [lenK_ints, hi]
  | x :: m, i, hd => by
    obtain ⟨hx, hi, hd'⟩ := drop_cons hd
    have ih := hasI_l l hb n m (i + 1) hd'
    have e0 := wrapI (i := i) (by omega)
    rw [c1k] at ih
    refine Evl.of ?_
    rw [h28b0a, g28b0a]
    by_cases h : x = n
    · subst h
      simp [lenK_ints, hi, idxK_ints hx]
    · have h' : ¬ n = x := fun e => h e.symm
      simp [lenK_ints, hi, idxK_ints hx, h, h', e0, ih]
theorem hasI_ev (l : List Int) (hb : l.length ≤ 1000000000) (n : Int) : ev (q28 (ints l) (iv n)) = some (0, [bv (decide (n ∈ l))]) := by
  have h1 := hasI_l l hb n l 0 rfl
  simp only [Int.natCast_zero, Int.ofNat_zero] at h1
  refine Evl.of ?_
  rw [h28, g28]
  by_cases h : n ∈ l
  · rw [if_pos h] at h1; simp [h1, h]
  · rw [if_neg h] at h1; simp [h1, h]
theorem hasI_nil (n : Int) : ev (q28 (.rows []) (iv n)) = some (0, [bv false]) := by
  have h := hasI_ev [] (by simp) n
  have e : (decide (n ∈ ([] : List Int))) = false := by simp
  rw [e] at h
  exact h
def tyr (l : List Ty) : List (List PV) := l.map Ty.cells
theorem tys_tyr (l : List Ty) : tys l = .rows (tyr l) := rfl
@[simp] theorem ns_tyr (l : List Ty) : NS (.rows (tyr l)) := ns_tys l
theorem tyr_one (t : Ty) : [[iv t.kind, sv t.name, iv t.n, tys t.kids]] = tyr [t] := by rw [tyr, List.map_cons, Ty.cells_eq]; rfl
theorem tyr_len (l : List Ty) : (tyr l).length = l.length := by simp [tyr]
section
variable {k : PV → Res} {kv : Res}
theorem app_t {l : List Ty} {t : Ty} (h : l.length ≤ 1000000000) : appK Try.prog .fail 25 (.pv (.rows (tyr l))) (.pv (.rows (tyr [t]))) k = k (.rows (tyr (l ++ [t]))) := by
  refine appK_of (fun w => ?_) (ns_tyr _)
  have hbb : (l.length + 1) * 56 ≤ 140737488355328 := by omega
  rw [tyr, tyr, app_ok sl_tys (es := l.map Ty.cells) (es' := [t].map Ty.cells) rfl rfl (by simp) (by simp [Ty.cells_len]) (by simp; omega) (by simpa using hbb)]
  rw [tyr, List.map_append]
theorem app_tt {a b : List Ty} (hb : b ≠ []) (h : a.length + b.length ≤ 1000000000) : appK Try.prog .fail 25 (.pv (.rows (tyr a))) (.pv (tys b)) k = k (.rows (tyr (a ++ b))) := by
  refine appK_of (fun w => ?_) (ns_tyr _)
  have hbb : (a.length + b.length) * 56 ≤ 140737488355328 := by omega
  rw [tys, tyr, app_ok sl_tys (es := a.map Ty.cells) (es' := b.map Ty.cells) rfl rfl (by simpa using hb) (by simp [Ty.cells_len]) (by simp; omega) (by simpa using hbb)]
  rw [tyr, List.map_append]
theorem p0_tt {x : AV} {b : List Ty} (h : b ≠ []) : app0K Try.prog .fail 25 x (.pv (tys b)) kv = .fail := by
  unfold app0K
  rw [if_neg]
  rintro ⟨es, e, sz, _, _, _, h2⟩
  have : rowsN (.pv (tys b)) = some (b.map Ty.cells) := rfl
  simp_all
end
/-! All parts. -/
mutual
def allF : Ty → List Ty
  | .mk k s n ks => .mk k s n ks :: allL ks
def allL : List Ty → List Ty
  | [] => []
  | t :: l => allF t ++ allL l
end
theorem allF_eq (t : Ty) : allF t = t :: allL t.kids := by cases t; rw [allF]; rfl
theorem allF_ne (t : Ty) : allF t ≠ [] := by rw [allF_eq]; simp
mutual
theorem allF_len : ∀ t : Ty, (allF t).length = szF t
  | .mk k s n ks => by rw [allF, List.length_cons, allL_len ks, szF]; omega
theorem allL_len : ∀ l : List Ty, (allL l).length = szL l
  | [] => by rw [allL, szL]; rfl
  | t :: l => by rw [allL, List.length_append, allF_len t, allL_len l, szL]
end
def AllE (t : Ty) : Prop := ev (q44w (iv t.kind) (sv t.name) (iv t.n) (tys t.kids)) = some (0, [tys (allF t)])
theorem all_b (A B C : PV) (l : List Ty) (hz : szL l ≤ 1000000) : ∀ (m : List Ty), (∀ x ∈ m, AllE x) → ∀ (i : Nat) (acc : List Ty), l.drop i = m → acc.length + szL m ≤ 2000000 →
    ev (q44b0b (iv (i : Int)) (tyr acc) A B C (tys l)) = some (1, [A, B, C, tys l, .rows (tyr (acc ++ allL m))])
  | [], _, i, acc, hd, ha => by
    have hi := drop_nil hd
    refine Evl.of ?_
    rw [h44b0b, g44b0b]
    simp [lenK_tys, hi, allL]
  | x :: m, hm, i, acc, hd, ha => by
    obtain ⟨hx, hi, hd'⟩ := drop_cons hd
    rw [szL] at ha
    have hl := szL_len l
    have hxl := allF_len x
    have ih := all_b A B C l hz m (fun y hy => hm y (List.mem_cons_of_mem _ hy)) (i + 1) (acc ++ allF x) hd' (by rw [List.length_append]; omega)
    have e0 := wrapI (i := i) (by omega)
    rw [c1k] at ih
    have hx44 : ev (q44w (iv x.kind) (sv x.name) (iv x.n) (tys x.kids)) = some (0, [tys (allF x)]) := hm x List.mem_cons_self
    refine Evl.of ?_
    rw [h44b0b, g44b0b, allL]
    simp [lenK_tys, hi, idxK_tys hx, hx44, app_tt (a := acc) (allF_ne x) (show acc.length + (allF x).length ≤ 1000000000 by omega), p0_tt (allF_ne x), e0, ih]
theorem all_a (A B C : PV) (t : Ty) (l : List Ty) (hz : szL l ≤ 1000000) (hk : ∀ x ∈ l, AllE x) (i : Nat) (hi0 : i = 0) : ev (q44b0a (iv (i : Int)) (tyr [t]) A B C (tys l)) = some (if l = [] then (0, [A, B, C, tys l, .rows (tyr [t])]) else (1, [A, B, C, tys l, .rows (tyr ([t] ++ allL l))])) := by
  cases l with
  | nil =>
    subst hi0
    refine Evl.of ?_
    rw [h44b0a, g44b0a]
    simp [lenK_tys]
  | cons x m =>
    have hx : (x :: m)[i]? = some x := by subst hi0; rfl
    have hi : (i : Int) < ((x :: m).length : Int) := by subst hi0; simp <;> omega
    have hxl := allF_len x
    rw [szL] at hz
    have ih := all_b A B C (x :: m) (by rw [szL]; exact hz) m (fun y hy => hk y (List.mem_cons_of_mem _ hy)) (i + 1) ([t] ++ allF x) (by subst hi0; rfl) (by rw [List.length_append]; simp; omega)
    have e0 := wrapI (i := i) (by omega)
    rw [c1k] at ih
    have hx44 : ev (q44w (iv x.kind) (sv x.name) (iv x.n) (tys x.kids)) = some (0, [tys (allF x)]) := hk x List.mem_cons_self
    have ha := fun k => app_tt (k := k) (a := [t]) (allF_ne x) (show [t].length + (allF x).length ≤ 1000000000 by simp; omega)
    rw [if_neg (by simp)]
    refine Evl.of ?_
    rw [h44b0a, g44b0a, allL, ← List.append_assoc]
    generalize [t] ++ allF x = tx at *
    generalize [t] = t1 at *
    simp [-List.length_cons, lenK_tys, hi, idxK_tys hx, hx44, ha, p0_tt (allF_ne x), e0, ih]
theorem all_ev : ∀ (n : Nat) (t : Ty), szF t ≤ n → n ≤ 1000000 → AllE t := by
  intro n
  induction n with
  | zero => intro t h; have := sz_pos t; omega
  | succ n ih =>
    intro t h hn
    have hzt : szF t = 1 + szL t.kids := by cases t; rw [szF]; rfl
    have h1 := all_a (iv t.kind) (sv t.name) (iv t.n) t t.kids (by omega) (fun x hx => ih x (by have := sz_kid hx; omega) (by omega)) 0 rfl
    simp only [Int.natCast_zero, Int.ofNat_zero] at h1
    have h2 : ev (q44 (iv t.kind) (sv t.name) (iv t.n) (tys t.kids)) = some (0, [.rows (tyr (allF t))]) := Evl.of (by
      rw [h44, g44, allF_eq]
      simp only [tyr_one]
      by_cases hk : t.kids = []
      · rw [if_pos hk, hk] at h1
        simp [h1, hk, allL]
      · rw [if_neg hk] at h1
        simp [h1])
    unfold AllE
    refine Evl.of ?_
    rw [h44w]
    show weakK (ev (q44 (iv t.kind) (sv t.name) (iv t.n) (tys t.kids))) = _
    rw [h2]; rfl
theorem allw_ev (t : Ty) (hz : szF t ≤ 1000000) : ev (q44w (iv t.kind) (sv t.name) (iv t.n) (tys t.kids)) = some (0, [tys (allF t)]) := all_ev (szF t) t (Nat.le_refl _) hz
/-! Metas. -/
def metR : List Ty → List Int → List Int
  | [], acc => acc
  | t :: l, acc => metR l (if t.kind = 2 ∧ ¬ t.n ∈ acc then acc ++ [t.n] else acc)
theorem metR_mem : ∀ (l : List Ty) (acc : List Int) (n : Int), n ∈ metR l acc ↔ n ∈ acc ∨ ∃ t ∈ l, t.kind = 2 ∧ t.n = n
  | [], acc, n => by rw [metR]; simp
  | t :: l, acc, n => by
    rw [metR, metR_mem l]
    constructor
    · rintro (h | ⟨x, hx, h⟩)
      · split at h
        · rename_i hc
          rcases List.mem_append.1 h with h | h
          · exact .inl h
          · exact .inr ⟨t, List.mem_cons_self, hc.1, (List.mem_singleton.1 h).symm⟩
        · exact .inl h
      · exact .inr ⟨x, List.mem_cons_of_mem _ hx, h⟩
    · rintro (h | ⟨x, hx, h⟩)
      · left
        split
        · exact List.mem_append.2 (.inl h)
        · exact h
      · rcases List.mem_cons.1 hx with rfl | hx
        · left
          by_cases hm : x.n ∈ acc
          · rw [if_neg (fun e => e.2 hm), ← h.2]; exact hm
          · rw [if_pos ⟨h.1, hm⟩, ← h.2]; exact List.mem_append.2 (.inr (by simp))
        · exact .inr ⟨x, hx, h⟩
mutual
theorem all_has (n : Int) : ∀ t : Ty, (∃ x ∈ allF t, x.kind = 2 ∧ x.n = n) ↔ hasM n t = true
  | .mk k s m ks => by
    rw [allF, hasM, Bool.or_eq_true, ← alls_has n ks]
    constructor
    · rintro ⟨x, hx, h⟩
      rcases List.mem_cons.1 hx with rfl | hx
      · left
        simp only [Ty.kind_mk, Ty.n_mk] at h
        simp [h.1, h.2]
      · exact .inr ⟨x, hx, h⟩
    · rintro (h | ⟨x, hx, h⟩)
      · simp at h
        exact ⟨_, List.mem_cons_self, h.1, h.2⟩
      · exact ⟨x, List.mem_cons_of_mem _ hx, h⟩
theorem alls_has (n : Int) : ∀ l : List Ty, (∃ x ∈ allL l, x.kind = 2 ∧ x.n = n) ↔ hasMs n l = true
  | [] => by rw [allL, hasMs]; simp
  | t :: l => by
    rw [allL, hasMs, Bool.or_eq_true, ← all_has n t, ← alls_has n l]
    constructor
    · rintro ⟨x, hx, h⟩
      rcases List.mem_append.1 hx with hx | hx
      · exact .inl ⟨x, hx, h⟩
      · exact .inr ⟨x, hx, h⟩
    · rintro (⟨x, hx, h⟩ | ⟨x, hx, h⟩)
      · exact ⟨x, List.mem_append.2 (.inl hx), h⟩
      · exact ⟨x, List.mem_append.2 (.inr hx), h⟩
end
theorem met_has (t : Ty) (n : Int) : decide (n ∈ metR (allF t) []) = hasM n t := by
  have h1 := metR_mem (allF t) [] n
  have h2 := all_has n t
  cases h : hasM n t with
  | true => rw [decide_eq_true_eq, h1]; exact .inr (h2.2 h)
  | false =>
    rw [decide_eq_false_iff_not, h1]
    rintro (h3 | h3)
    · cases h3
    · rw [h2.1 h3] at h; cases h
theorem metR_len : ∀ (l : List Ty) (acc : List Int), acc.length ≤ (metR l acc).length ∧ (metR l acc).length ≤ acc.length + l.length
  | [], acc => by rw [metR]; simp
  | t :: l, acc => by
    rw [metR]
    have := metR_len l (if t.kind = 2 ∧ ¬ t.n ∈ acc then acc ++ [t.n] else acc)
    rw [List.length_cons]
    split at this
    · rename_i hc
      rw [if_pos hc]
      simp at this
      omega
    · rename_i hc
      rw [if_neg hc]
      omega
theorem app_i {k : PV → Res} {l : List Int} {z : Int} (h : l.length ≤ 1000000000) : appK Try.prog .fail 55 (.pv (.rows (ivs l))) (.pv (.rows [[.lit (.int .i64 z)]])) k = k (.rows (ivs (l ++ [z]))) := by
  refine appK_of (fun w => ?_) (ns_ints _)
  have hbb : (l.length + 1) * 8 ≤ 140737488355328 := by omega
  rw [ivs, app_ok sl_ints (es := l.map fun n => [.lit (.int .i64 n)]) (es' := [[.lit (.int .i64 z)]]) rfl rfl (by simp) (by simp) (by simp; omega) (by simpa using hbb)]
  rw [ivs, List.map_append]; exact Iff.rfl
theorem ivs_one (z : Int) : [[PV.lit (.int .i64 z)]] = ivs [z] := rfl
theorem hasI_ivs (l : List Int) (hb : l.length ≤ 1000000000) (n : Int) : ev (q28 (.rows (ivs l)) (iv n)) = some (0, [bv (decide (n ∈ l))]) := hasI_ev l hb n
theorem met_b (l : List Ty) (hz : l.length ≤ 1000000) : ∀ (m : List Ty) (i : Nat) (acc : List Int), l.drop i = m → acc.length ≤ i →
    ev (q29b0b (iv (i : Int)) (tys l) (ivs acc)) = some (1, [.rows (ivs (metR m acc))])
  | [], i, acc, hd, ha => by
    have hi := drop_nil hd
    refine Evl.of ?_
    rw [h29b0b, g29b0b]
    simp [lenK_tys, hi, metR]
  | x :: m, i, acc, hd, ha => by
    obtain ⟨hx, hi, hd'⟩ := drop_cons hd
    have e0 := wrapI (i := i) (by omega)
    refine Evl.of ?_
    rw [h29b0b, g29b0b, metR]
    by_cases h2 : x.kind = 2
    · by_cases hm : x.n ∈ acc
      · have ih := met_b l hz m (i + 1) acc hd' (by omega)
        rw [c1k] at ih
        simp [lenK_tys, hi, idxK_tys hx, h2, hasI_ivs acc (by omega) x.n, hm, e0, ih]
      · have ih := met_b l hz m (i + 1) (acc ++ [x.n]) hd' (by simp <;> omega)
        rw [c1k] at ih
        simp [lenK_tys, hi, idxK_tys hx, h2, hasI_ivs acc (by omega) x.n, hm, app_i (l := acc) (z := x.n) (by omega), e0, ih]
    · have ih := met_b l hz m (i + 1) acc hd' (by omega)
      rw [c1k] at ih
      simp [lenK_tys, hi, idxK_tys hx, h2, e0, ih]
theorem met_a (l : List Ty) (hz : l.length ≤ 1000000) : ∀ (m : List Ty) (i : Nat), l.drop i = m →
    ev (q29b0a (iv (i : Int)) (tys l)) = some (if metR m [] = [] then (0, [nS]) else (1, [.rows (ivs (metR m []))]))
  | [], i, hd => by
    have hi := drop_nil hd
    refine Evl.of ?_
    rw [h29b0a, g29b0a]
    simp [lenK_tys, hi, metR]
  | x :: m, i, hd => by
    obtain ⟨hx, hi, hd'⟩ := drop_cons hd
    have e0 := wrapI (i := i) (by omega)
    refine Evl.of ?_
    rw [h29b0a, g29b0a, metR]
    by_cases h2 : x.kind = 2
    · have ih := met_b l hz m (i + 1) [x.n] hd' (by simp)
      rw [c1k] at ih
      have hne : ¬ metR m [x.n] = [] := fun e => by
        have := (metR_len m [x.n]).1
        rw [e] at this
        simp at this
      simp [lenK_tys, hi, idxK_tys hx, h2, hasI_nil x.n, ivs_one, e0, ih, hne]
    · have ih := met_a l hz m (i + 1) hd'
      rw [c1k] at ih
      simp [lenK_tys, hi, idxK_tys hx, h2, e0, ih]
theorem met_raw (t : Ty) (hz : szF t ≤ 1000000) : ev (q29 (iv t.kind) (sv t.name) (iv t.n) (tys t.kids)) = some (if metR (allF t) [] = [] then (0, [nS]) else (1, [.rows (ivs (metR (allF t) []))])) := by
  have h0 := allw_ev t hz
  have h1 := met_a (allF t) (by rw [allF_len]; exact hz) (allF t) 0 rfl
  simp only [Int.natCast_zero, Int.ofNat_zero] at h1
  by_cases h : metR (allF t) [] = []
  · rw [if_pos h] at h1 ⊢
    exact Evl.of (by rw [h29, g29]; simp [h0, h1])
  · rw [if_neg h] at h1 ⊢
    exact Evl.of (by rw [h29, g29]; simp [h0, h1])
def e0B : ByteArray := ⟨#[]⟩
theorem kids_ev (A B C D : PV) (es : List (List PV)) : ev (q32 A B C D (.rows es)) = some (0, [A, B, C, .rows es]) := Evl.of (by rw [h32, g32]; simp)
theorem fnd_l (L : Bd) (hL : L.length ≤ 1000000) (A B C F G H : PV) (n : Int) : ∀ (m : Bd) (i : Nat), L.drop i = m →
    ev (q16b0a (iv (i : Int)) (sbs L) A B (iv n) C F G H) = some (match bget m n with
      | some u => (0, [A, B, iv n, C, iv u.kind, sv u.name, iv u.n, tys u.kids])
      | none => (1, [A, B, iv n, C, F, G, H, nS, sbs L]))
  | [], i, hd => by
    have hi := drop_nil hd
    refine Evl.of ?_
    rw [h16b0a, g16b0a]
    simp [lenK_sbs, hi, bget]
  | (k, u) :: m, i, hd => by
    obtain ⟨hx, hi, hd'⟩ := drop_cons hd
    have ih := fnd_l L hL A B C F G H n m (i + 1) hd'
    have e0 := wrapI (i := i) (by omega)
    rw [c1k] at ih
    have hb : bget ((k, u) :: m) n = if k = n then some u else bget m n := by
      unfold bget
      rw [List.find?_cons]
      by_cases h : k = n
      · simp [isN, h]
      · simp [isN, h]
    refine Evl.of ?_
    rw [h16b0a, g16b0a, hb]
    by_cases h : k = n
    · subst h
      simp [lenK_sbs, hi, idxK_sbs hx]
    · rw [if_neg h]
      simp [lenK_sbs, hi, idxK_sbs hx, h, e0, ih]
abbrev qAp (L : Bd) (t : Ty) : Q := q16 (sbs L) (iv t.kind) (sv t.name) (iv t.n) (tys t.kids)
def ApE (L : Bd) (t : Ty) : Prop := ev (qAp L t) = some (0, [iv (apR L t).kind, sv (apR L t).name, iv (apR L t).n, tys (apR L t).kids])
theorem apk_d (L : Bd) (l : List Ty) (hb : l.length ≤ 1000000) (A B C F G H : PV) : ∀ (m : List Ty), (∀ t ∈ m, ApE L t) → ∀ (i : Nat) (acc : List Ty), l.drop i = m → acc.length ≤ i →
    ev (q16b2d (iv (i : Int)) (tyr acc) (sbs L) A B C (tys l) F G H) = some (1, [A, B, C, tys l, F, G, H, nS, .rows (tyr (acc ++ m.map (apR L)))])
  | [], _, i, acc, hd, ha => by
    have hi := drop_nil hd
    refine Evl.of ?_
    rw [h16b2d, g16b2d]
    simp [lenK_tys, hi]
  | x :: m, hm, i, acc, hd, ha => by
    obtain ⟨hx, hi, hd'⟩ := drop_cons hd
    have ih := apk_d L l hb A B C F G H m (fun t ht => hm t (List.mem_cons_of_mem _ ht)) (i + 1) (acc ++ [apR L x]) hd' (by simp <;> omega)
    have e0 := wrapI (i := i) (by omega)
    rw [c1k] at ih
    have hap : ev (qAp L x) = _ := hm x List.mem_cons_self
    refine Evl.of ?_
    rw [h16b2d, g16b2d]
    simp [lenK_tys, hi, idxK_tys hx, hap, tyr_one, app_t (l := acc) (t := apR L x) (by omega), e0, ih]
theorem apk_a (L : Bd) (l : List Ty) (hb : l.length ≤ 1000000) (A B C F G H : PV) (hm : ∀ t ∈ l, ApE L t) :
    ev (q16b2a (iv 0) (sbs L) A B C (tys l) F G H) = some (if l = [] then (0, [A, B, C, tys l, F, G, H, nS, nS]) else (1, [A, B, C, tys l, F, G, H, nS, .rows (tyr (l.map (apR L)))])) := by
  have key : ∀ i : Nat, i = 0 → ev (q16b2a (iv (i : Int)) (sbs L) A B C (tys l) F G H) = some (if l = [] then (0, [A, B, C, tys l, F, G, H, nS, nS]) else (1, [A, B, C, tys l, F, G, H, nS, .rows (tyr (l.map (apR L)))])) := fun i hi0 => by
    cases l with
    | nil =>
      subst hi0
      refine Evl.of ?_
      rw [h16b2a, g16b2a]
      simp [lenK_tys]
    | cons x m =>
      have hx : (x :: m)[i]? = some x := by subst hi0; rfl
      have hi : (i : Int) < ((x :: m).length : Int) := by subst hi0; simp <;> omega
      have ih := apk_d L (x :: m) hb A B C F G H m (fun t ht => hm t (List.mem_cons_of_mem _ ht)) (i + 1) [apR L x] (by subst hi0; rfl) (by simp)
      have e0 := wrapI (i := i) (by omega)
      rw [c1k] at ih
      have hap : ev (qAp L x) = _ := hm x List.mem_cons_self
      rw [if_neg (by simp)]
      refine Evl.of ?_
      rw [h16b2a, g16b2a]
      simp [-List.length_cons, lenK_tys, hi, idxK_tys hx, hap, tyr_one, e0, ih]
  exact key 0 rfl
theorem ap_ev (L : Bd) (hL : L.length ≤ 1000000) : ∀ (n : Nat) (t : Ty), szF t ≤ n → Few t → ApE L t := by
  intro n
  induction n with
  | zero => intro t h; have := sz_pos t; omega
  | succ n ih =>
    intro t h ft
    have hk := fun F G H => apk_a L t.kids ft.len (iv t.kind) (sv t.name) (iv t.n) F G H (fun x hx => ih x (by have := sz_kid hx; omega) (ft.kid x hx))
    have hf := fnd_l L hL (iv t.kind) (sv t.name) (tys t.kids) (iv 0) (sv ⟨#[]⟩) (iv 0) t.n L 0 rfl
    simp only [Int.natCast_zero, Int.ofNat_zero] at hf
    unfold ApE
    refine Evl.of ?_
    rw [h16, g16, apR_eq]
    generalize t.kind = tk at *
    generalize t.kids = ks at *
    by_cases h2 : tk = 2
    · subst h2
      cases hb : bget L t.n with
      | some u =>
        rw [hb] at hf
        simp only at hf
        simp [hf, tys_nil, tys_nil']
      | none =>
        rw [hb] at hf
        simp only at hf
        have hk := hk (iv 0) (sv ⟨#[]⟩) (iv 0)
        by_cases hks : ks = []
        · subst hks
          rw [if_pos rfl] at hk
          simp [hf, hk, kids_ev]
          rfl
        · rw [if_neg hks] at hk
          simp [hf, hk, kids_ev]
          rfl
    · have hk := hk (iv 0) (sv ⟨#[]⟩) (iv 0)
      by_cases hks : ks = []
      · subst hks
        rw [if_pos rfl] at hk
        simp [h2, hk, kids_ev]
        rfl
      · rw [if_neg hks] at hk
        simp [h2, hk, kids_ev]
        rfl
theorem del_bk (l : List Int) (hl : l.length ≤ 1000000001) (n : Nat) (F G X : PV) : ∀ (m i : Nat) (b : Bd), (l.drop n).length = i + m → ev (q12bb0a (iv (i : Int)) (iv (l.drop n).length) (iv n) (ints (l.drop n)) X (ints l) F G (sbs b)) = some (0, [ints l, F, G, sbs (((l.drop n).drop i).foldl bdel b), X])
  | 0, i, b, h => Evl.of (by
    have hi : ¬ (i : Int) < (l.drop n).length := by omega
    have hd : (l.drop n).drop i = [] := List.drop_eq_nil_of_le (by omega)
    rw [hd, h12bb0a, g12bb0a]
    simp only [List.length_drop] at hi
    simp [hi])
  | m + 1, i, b, h => by
    have hi : i < (l.drop n).length := by omega
    have hx : (l.drop n)[i]? = some ((l.drop n)[i]) := List.getElem?_eq_getElem hi
    have hy : l[n + i]? = some ((l.drop n)[i]) := by rw [← List.getElem?_drop, hx]
    have hd := List.drop_eq_getElem_cons hi
    have hb' := del_bk l hl n F G X m (i + 1) (bdel b ((l.drop n)[i])) (by omega)
    generalize hv : (l.drop n)[i] = v at hx hy hb' hd
    rw [hd, List.foldl_cons]
    refine Evl.of ?_
    have e0 : IntKind.i64.wrap ((i : Int) + 1) = (i : Int) + 1 := by rw [IntKind.wrap_i64]; simp at hi; omega
    have e1 : ((i + 1 : Nat) : Int) = (i : Int) + 1 := by omega
    have e2 : ((n + i : Nat) : Int) = (n : Int) + (i : Int) := by omega
    have hiI : (i : Int) < (l.drop n).length := by omega
    have hk := fun k => idxK_ints (d := Res.fail) (k := k) hy
    rw [e2] at hk
    rw [e1] at hb'
    rw [h12bb0a, g12bb0a]
    generalize ((l.drop n).drop (i + 1)).foldl bdel (bdel b v) = bb at hb' ⊢
    simp only [List.length_drop] at hb' hiI ⊢
    simp [hiI, idxK_ints hx, sumK_ii, hk, delK_sbs, e0, hb']
theorem del_ak (l : List Int) (hl : l.length ≤ 1000000001) (n : Nat) (F G : PV) : ∀ (m i : Nat) (b : Bd), (l.drop n).length = i + m → ev (q12ab0b (iv (i : Int)) (iv (l.drop n).length) (iv n) (ints (l.drop n)) (ints l) F G (sbs b)) = some (0, [ints l, F, G, sbs (((l.drop n).drop i).foldl bdel b), iv 0])
  | 0, i, b, h => Evl.of (by
    have hi : ¬ (i : Int) < (l.drop n).length := by omega
    have hd : (l.drop n).drop i = [] := List.drop_eq_nil_of_le (by omega)
    rw [hd, h12ab0b, g12ab0b]
    simp only [List.length_drop] at hi
    simp [hi])
  | m + 1, i, b, h => by
    have hi : i < (l.drop n).length := by omega
    have hx : (l.drop n)[i]? = some ((l.drop n)[i]) := List.getElem?_eq_getElem hi
    have hy : l[n + i]? = some ((l.drop n)[i]) := by rw [← List.getElem?_drop, hx]
    have hd := List.drop_eq_getElem_cons hi
    have hb' := del_ak l hl n F G m (i + 1) (bdel b ((l.drop n)[i])) (by omega)
    generalize hv : (l.drop n)[i] = v at hx hy hb' hd
    rw [hd, List.foldl_cons]
    refine Evl.of ?_
    have e0 : IntKind.i64.wrap ((i : Int) + 1) = (i : Int) + 1 := by rw [IntKind.wrap_i64]; simp at hi; omega
    have e1 : ((i + 1 : Nat) : Int) = (i : Int) + 1 := by omega
    have e2 : ((n + i : Nat) : Int) = (n : Int) + (i : Int) := by omega
    have hiI : (i : Int) < (l.drop n).length := by omega
    have hk := fun k => idxK_ints (d := Res.fail) (k := k) hy
    rw [e2] at hk
    rw [e1] at hb'
    rw [h12ab0b, g12ab0b]
    generalize ((l.drop n).drop (i + 1)).foldl bdel (bdel b v) = bb at hb' ⊢
    simp only [List.length_drop] at hb' hiI ⊢
    simp [hiI, idxK_ints hx, sumK_ii, hk, delK_sbs, e0, hb']
theorem unk_a {f : Nat} {x y : Ty} {s s' : St} {r : Bool} (ht : s.tr = []) (hd : (s.b.map (·.1)).Nodup) (hl : s'.tr.length ≤ 1000000001) (h : unifF f x y s = some (r, s')) : ∃ m : PV, ∃ t : PV, (uniE r s' = 0 → m = sbs s'.b ∧ t = ints s'.tr) ∧ (uniE r s' = 140 → m = sbs s.b ∧ t = ints s.tr) ∧
    ev (q12a (iv x.kind) (sv x.name) (iv x.n) (tys x.kids) (iv y.kind) (sv y.name) (iv y.n) (tys y.kids) (iv s.fr) (iv s.st) (sbs s.b)) =
      some (if s'.tr = [] then (0, [.lit (.slice none 0 0), iv s'.fr, iv s'.st, m, iv (uniE r s')]) else (1, [iv s'.fr, iv s'.st, m, t, iv (uniE r s')])) := by
  have h1 := uni_a f x y s s' r ht h
  obtain ⟨u1, u2⟩ := undo_unif h hd
  have hfr := (unif_ext f x y s s' r h).fr
  unfold outA at h1
  rw [hfr] at h1 ⊢
  have h0 := fun b => (Evl.of (by
    rw [h12ab0a, g12ab0a]
    simp) : ev (q12ab0a (iv 0) (iv s.fr) (iv s'.st) (sbs b)) = some (0, [.lit (.slice none 0 0), iv s.fr, iv s'.st, sbs b, iv 0]))
  by_cases hm : s'.st > maxS
  · have hm' : s'.st > 1048576 := hm
    refine ⟨sbs s'.b, ints s'.tr, fun _ => ⟨rfl, rfl⟩, fun e => absurd e (by simp [uniE, hm]), Evl.of ?_⟩
    rw [h12a, g12a]
    by_cases ht' : s'.tr = []
    · rw [if_pos ht'] at h1
      cases r <;> simp [h1, hm, hm', uniE, ht']
    · rw [if_neg ht'] at h1
      cases r <;> simp [h1, hm, hm', uniE, ht']
  · have hm' : ¬ s'.st > 1048576 := hm
    cases r with
    | true =>
      refine ⟨sbs s'.b, ints s'.tr, fun _ => ⟨rfl, rfl⟩, fun e => absurd e (by simp [uniE, hm]), Evl.of ?_⟩
      rw [h12a, g12a]
      by_cases ht' : s'.tr = []
      · rw [if_pos ht'] at h1
        simp [h1, hm, hm', uniE, ht']
      · rw [if_neg ht'] at h1
        simp [h1, hm, hm', uniE, ht']
    | false =>
      by_cases ht' : s'.tr = []
      · rw [if_pos ht'] at h1
        rw [ht', ht] at u1
        simp at u1
        rw [u1] at h1
        refine ⟨sbs s.b, ints s.tr, fun e => absurd e (by simp [uniE, hm]), fun _ => ⟨rfl, rfl⟩, Evl.of ?_⟩
        rw [h12a, g12a]
        simp [h1, hm, hm', uniE, ht', h0]
      · rw [if_neg ht'] at h1
        have hb' := del_ak s'.tr hl 0 (iv s.fr) (iv s'.st) s'.tr.length 0 s'.b (by simp)
        rw [ht] at u1
        simp at u1
        simp [u1] at hb'
        refine ⟨sbs s.b, ints s.tr, fun h => absurd h (by simp [uniE, hm]), fun _ => ⟨rfl, rfl⟩, Evl.of ?_⟩
        rw [h12a, g12a, ht]
        simp [h1, hm, hm', uniE, ht', slcK_from0, lenK_ints, hb', slcK_to0]
theorem unk_b {f : Nat} {x y : Ty} {s s' : St} {r : Bool} (hd : (s.b.map (·.1)).Nodup) (hl : s'.tr.length ≤ 1000000001) (h : unifF f x y s = some (r, s')) : ∃ m : PV, ∃ t : PV, (uniE r s' = 0 → m = sbs s'.b ∧ t = ints s'.tr) ∧ (uniE r s' = 140 → m = sbs s.b ∧ t = ints s.tr) ∧ (s'.tr.length = s.tr.length ∧ uniE r s' ≠ 140 → t = ints s.tr) ∧
    ev (q12b (iv x.kind) (sv x.name) (iv x.n) (tys x.kids) (iv y.kind) (sv y.name) (iv y.n) (tys y.kids) (iv s.fr) (iv s.st) (sbs s.b) (ints s.tr)) =
      some (if s'.tr.length = s.tr.length ∧ uniE r s' ≠ 140 then 0 else 1, [iv s'.fr, iv s'.st, m, t, iv (uniE r s')]) := by
  have h1 := uni_b f x y s s' r h
  obtain ⟨u1, u2⟩ := undo_unif h hd
  have hfr := (unif_ext f x y s s' r h).fr
  obtain ⟨tl, htl⟩ := (unif_ext f x y s s' r h).tr
  have hst : s.tr.length ≤ s'.tr.length := by rw [htl, List.length_append]; omega
  rw [hfr] at h1 ⊢
  have hs2 : s'.tr.length = s.tr.length → ints s'.tr = ints s.tr := fun ht' => by
    have hsame : s'.tr = s.tr := by rw [htl] at ht'; simp at ht'; rw [htl, ht']; simp
    rw [hsame]
  by_cases hm : s'.st > maxS
  · have hm' : s'.st > 1048576 := hm
    refine ⟨sbs s'.b, ints s'.tr, fun _ => ⟨rfl, rfl⟩, fun e => absurd e (by simp [uniE, hm]), fun e => hs2 e.1, Evl.of ?_⟩
    rw [h12b, g12b]
    by_cases ht' : s'.tr.length = s.tr.length
    · have hsame : s'.tr = s.tr := by rw [htl] at ht'; simp at ht'; rw [htl, ht']; simp
      rw [if_pos ht', hsame] at h1
      cases r <;> simp [lenK_ints, h1, hm, hm', uniE, hsame]
    · rw [if_neg ht'] at h1
      cases r <;> simp [lenK_ints, h1, hm, hm', uniE, ht']
  · have hm' : ¬ s'.st > 1048576 := hm
    cases r with
    | true =>
      refine ⟨sbs s'.b, ints s'.tr, fun _ => ⟨rfl, rfl⟩, fun e => absurd e (by simp [uniE, hm]), fun e => hs2 e.1, Evl.of ?_⟩
      rw [h12b, g12b]
      by_cases ht' : s'.tr.length = s.tr.length
      · have hsame : s'.tr = s.tr := by rw [htl] at ht'; simp at ht'; rw [htl, ht']; simp
        rw [if_pos ht', hsame] at h1
        simp [lenK_ints, h1, hm, hm', uniE, hsame]
      · rw [if_neg ht'] at h1
        simp [lenK_ints, h1, hm, hm', uniE, ht']
    | false =>
      have hf1 := fun k => slcK_from (k := k) (l := s'.tr) (i := s.tr.length) hst
      have hf2 := fun k => slcK_ints (k := k) (l := s'.tr) (i := s.tr.length) hst
      have hb' := del_bk s'.tr hl s.tr.length (iv s.fr) (iv s'.st) (iv s.tr.length) (s'.tr.drop s.tr.length).length 0 s'.b (by simp)
      simp only [Int.ofNat_zero, Int.natCast_zero, List.drop_zero, u1] at hb'
      rw [u2] at hf2
      refine ⟨sbs s.b, ints s.tr, fun h => absurd h (by simp [uniE, hm]), fun _ => ⟨rfl, rfl⟩, fun _ => rfl, Evl.of ?_⟩
      rw [h12b, g12b]
      by_cases ht' : s'.tr.length = s.tr.length
      · have hsame : s'.tr = s.tr := by rw [htl] at ht'; simp at ht'; rw [htl, ht']; simp
        rw [if_pos ht', hsame] at h1
        rw [hsame] at hf1 hf2 hb'
        simp [lenK_ints, h1, hm, hm', uniE, hf1, hf2] at hb' ⊢
        simp [hb', hf2]
      · rw [if_neg ht'] at h1
        simp [lenK_ints, h1, hm, hm', uniE, hf1, hf2] at hb' ⊢
        simp [hb', hf2]
theorem fna_l (L : Bd) (hL : L.length ≤ 1000000) (A B C F G H : PV) (n : Int) : ∀ (m : Bd) (i : Nat), L.drop i = m →
    ev (q16ab0a (iv (i : Int)) (sbs L) A B (iv n) C F G H) = some (match bget m n with
      | some u => (0, [sbs L, A, B, iv n, C, iv u.kind, sv u.name, iv u.n, tys u.kids])
      | none => (1, [sbs L, A, B, iv n, C, F, G, H, nS]))
  | [], i, hd => by
    have hi := drop_nil hd
    refine Evl.of ?_
    rw [h16ab0a, g16ab0a]
    simp [lenK_sbs, hi, bget]
  | (k, u) :: m, i, hd => by
    obtain ⟨hx, hi, hd'⟩ := drop_cons hd
    have ih := fna_l L hL A B C F G H n m (i + 1) hd'
    have e0 := wrapI (i := i) (by omega)
    rw [c1k] at ih
    have hb : bget ((k, u) :: m) n = if k = n then some u else bget m n := by
      unfold bget
      rw [List.find?_cons]
      by_cases h : k = n
      · simp [isN, h]
      · simp [isN, h]
    refine Evl.of ?_
    rw [h16ab0a, g16ab0a, hb]
    by_cases h : k = n
    · subst h
      simp [lenK_sbs, hi, idxK_sbs hx]
    · rw [if_neg h]
      simp [lenK_sbs, hi, idxK_sbs hx, h, e0, ih]
abbrev qAa (L : Bd) (t : Ty) : Q := q16a (iv t.kind) (sv t.name) (iv t.n) (tys t.kids) (sbs L)
def ApA (L : Bd) (t : Ty) : Prop := ev (qAa L t) = some (0, [sbs L, iv (apR L t).kind, sv (apR L t).name, iv (apR L t).n, tys (apR L t).kids])
theorem aak_d (L : Bd) (l : List Ty) (hb : l.length ≤ 1000000) (A B C F G H : PV) : ∀ (m : List Ty), (∀ t ∈ m, ApA L t) → ∀ (i : Nat) (acc : List Ty), l.drop i = m → acc.length ≤ i →
    ev (q16ab2d (iv (i : Int)) (tyr acc) A B C (tys l) (sbs L) F G H) = some (1, [A, B, C, tys l, sbs L, F, G, H, nS, .rows (tyr (acc ++ m.map (apR L)))])
  | [], _, i, acc, hd, ha => by
    have hi := drop_nil hd
    refine Evl.of ?_
    rw [h16ab2d, g16ab2d]
    simp [lenK_tys, hi]
  | x :: m, hm, i, acc, hd, ha => by
    obtain ⟨hx, hi, hd'⟩ := drop_cons hd
    have ih := aak_d L l hb A B C F G H m (fun t ht => hm t (List.mem_cons_of_mem _ ht)) (i + 1) (acc ++ [apR L x]) hd' (by simp <;> omega)
    have e0 := wrapI (i := i) (by omega)
    rw [c1k] at ih
    have hap : ev (qAa L x) = _ := hm x List.mem_cons_self
    refine Evl.of ?_
    rw [h16ab2d, g16ab2d]
    simp [lenK_tys, hi, idxK_tys hx, hap, tyr_one, app_t (l := acc) (t := apR L x) (by omega), e0, ih]
theorem aak_a (L : Bd) (l : List Ty) (hb : l.length ≤ 1000000) (A B C F G H : PV) (hm : ∀ t ∈ l, ApA L t) :
    ev (q16ab2a (iv 0) A B C (tys l) (sbs L) F G H) = some (if l = [] then (0, [A, B, C, tys l, sbs L, F, G, H, nS, nS]) else (1, [A, B, C, tys l, sbs L, F, G, H, nS, .rows (tyr (l.map (apR L)))])) := by
  have key : ∀ i : Nat, i = 0 → ev (q16ab2a (iv (i : Int)) A B C (tys l) (sbs L) F G H) = some (if l = [] then (0, [A, B, C, tys l, sbs L, F, G, H, nS, nS]) else (1, [A, B, C, tys l, sbs L, F, G, H, nS, .rows (tyr (l.map (apR L)))])) := fun i hi0 => by
    cases l with
    | nil =>
      subst hi0
      refine Evl.of ?_
      rw [h16ab2a, g16ab2a]
      simp [lenK_tys]
    | cons x m =>
      have hx : (x :: m)[i]? = some x := by subst hi0; rfl
      have hi : (i : Int) < ((x :: m).length : Int) := by subst hi0; simp <;> omega
      have ih := aak_d L (x :: m) hb A B C F G H m (fun t ht => hm t (List.mem_cons_of_mem _ ht)) (i + 1) [apR L x] (by subst hi0; rfl) (by simp)
      have e0 := wrapI (i := i) (by omega)
      rw [c1k] at ih
      have hap : ev (qAa L x) = _ := hm x List.mem_cons_self
      rw [if_neg (by simp)]
      refine Evl.of ?_
      rw [h16ab2a, g16ab2a]
      simp [-List.length_cons, lenK_tys, hi, idxK_tys hx, hap, tyr_one, e0, ih]
  exact key 0 rfl
theorem apa_ev (L : Bd) (hL : L.length ≤ 1000000) : ∀ (n : Nat) (t : Ty), szF t ≤ n → Few t → ApA L t := by
  intro n
  induction n with
  | zero => intro t h; have := sz_pos t; omega
  | succ n ih =>
    intro t h ft
    have hk := fun F G H => aak_a L t.kids ft.len (iv t.kind) (sv t.name) (iv t.n) F G H (fun x hx => ih x (by have := sz_kid hx; omega) (ft.kid x hx))
    have hf := fna_l L hL (iv t.kind) (sv t.name) (tys t.kids) (iv 0) (sv ⟨#[]⟩) (iv 0) t.n L 0 rfl
    simp only [Int.natCast_zero, Int.ofNat_zero] at hf
    unfold ApA
    refine Evl.of ?_
    rw [h16a, g16a, apR_eq]
    generalize t.kind = tk at *
    generalize t.kids = ks at *
    by_cases h2 : tk = 2
    · subst h2
      cases hb : bget L t.n with
      | some u =>
        rw [hb] at hf
        simp only at hf
        simp [hf, tys_nil, tys_nil']
      | none =>
        rw [hb] at hf
        simp only at hf
        have hk := hk (iv 0) (sv ⟨#[]⟩) (iv 0)
        by_cases hks : ks = []
        · subst hks
          rw [if_pos rfl] at hk
          simp [hf, hk, kids_ev]
          rfl
        · rw [if_neg hks] at hk
          simp [hf, hk, kids_ev]
          rfl
    · have hk := hk (iv 0) (sv ⟨#[]⟩) (iv 0)
      by_cases hks : ks = []
      · subst hks
        rw [if_pos rfl] at hk
        simp [h2, hk, kids_ev]
        rfl
      · rw [if_neg hks] at hk
        simp [h2, hk, kids_ev]
        rfl
theorem ap_r (L : Bd) (hL : L.length ≤ 1000000) (t : Ty) (ft : Few t) : ev (q16 (sbs L) (iv t.kind) (sv t.name) (iv t.n) (tys t.kids)) = some (0, [iv (apR L t).kind, sv (apR L t).name, iv (apR L t).n, tys (apR L t).kids]) := ap_ev L hL _ t (Nat.le_refl _) ft
theorem ap_a (L : Bd) (hL : L.length ≤ 1000000) (t : Ty) (ft : Few t) : ev (q16a (iv t.kind) (sv t.name) (iv t.n) (tys t.kids) (sbs L)) = some (0, [sbs L, iv (apR L t).kind, sv (apR L t).name, iv (apR L t).n, tys (apR L t).kids]) := apa_ev L hL _ t (Nat.le_refl _) ft
theorem met_w (t : Ty) (hz : szF t ≤ 1000000) : ev (q29w (iv t.kind) (sv t.name) (iv t.n) (tys t.kids)) = some (0, [ints (metR (allF t) [])]) := by
  have h := met_raw t hz
  refine Evl.of ?_
  rw [h29w]
  show weakK (ev (q29 (iv t.kind) (sv t.name) (iv t.n) (tys t.kids))) = _
  rw [h]
  by_cases h2 : metR (allF t) [] = []
  · rw [if_pos h2, h2]; rfl
  · rw [if_neg h2]; rfl
theorem hasm_ev (t : Ty) (hz : szF t ≤ 1000000) (n : Int) : ev (q28 (ints (metR (allF t) [])) (iv n)) = some (0, [bv (hasM n t)]) := by
  rw [hasI_ev _ (by have := (metR_len (allF t) []).2; rw [allF_len] at this; simp at this; omega), met_has]
abbrev oneR (n : Int) (B : Ty) : List (List PV) := [[iv n, iv B.kind, sv B.name, iv B.n, tys B.kids]]
theorem sbs_one (n : Int) (u : Ty) : PV.rows [[iv n, iv u.kind, sv u.name, iv u.n, tys u.kids]] = sbs [(n, u)] := by
  simp [sbs, sbC, Ty.cells_eq]
theorem ap_one (n : Int) (B t : Ty) (ft : Few t) : ev (q16 (.rows [[iv n, iv B.kind, sv B.name, iv B.n, tys B.kids]]) (iv t.kind) (sv t.name) (iv t.n) (tys t.kids)) = some (0, [iv (apR [(n, B)] t).kind, sv (apR [(n, B)] t).name, iv (apR [(n, B)] t).n, tys (apR [(n, B)] t).kids]) := by
  rw [sbs_one]
  exact ap_r _ (by simp) t ft
theorem ap_r0 (t : Ty) (ft : Few t) : ev (q16 (.rows []) (iv t.kind) (sv t.name) (iv t.n) (tys t.kids)) = some (0, [iv (apR [] t).kind, sv (apR [] t).name, iv (apR [] t).n, tys (apR [] t).kids]) := ap_r [] (by simp) t ft
section
variable {β : Type} {d : β} {kk : PV → β}
theorem setK_sbs (done rest : Bd) (k : Int) (t u : Ty) : setK d (sbs (done ++ (k, t) :: rest)) (.lit (.int .i64 (done.length : Int))) 0 [iv k, iv u.kind, sv u.name, iv u.n, tys u.kids] kk = kk (sbs (done ++ (k, u) :: rest)) := by
  have hlt : done.length < ((done ++ (k, t) :: rest).map sbC).length := by simp
  have hg : ((done ++ (k, t) :: rest).map sbC).getD done.length [] = sbC (k, t) := by
    rw [List.getD_eq_getElem?_getD, List.getElem?_map, List.getElem?_append_right (Nat.le_refl _)]
    simp
  have hs : setAt (sbC (k, t)) 0 [iv k, iv u.kind, sv u.name, iv u.n, tys u.kids] = sbC (k, u) := by rw [sbC, sbC, Ty.cells_eq, Ty.cells_eq]; rfl
  have hset : ((done ++ (k, t) :: rest).map sbC).set done.length (sbC (k, u)) = (done ++ (k, u) :: rest).map sbC := by
    rw [List.map_append, List.map_append, List.set_append_right _ _ (by simp)]
    simp
  refine theK_of (and_iff (fun w => ?_) (ns_sbs _))
  constructor
  · rintro ⟨es, n, kd, g1, g2, g3, g4, g5, rfl, _⟩
    cases g1
    cases g2
    rw [Int.toNat_natCast, hg, hs, hset]
    rfl
  · rintro rfl
    refine ⟨_, _, _, rfl, rfl, by omega, by rw [Int.toNat_natCast]; exact hlt, ?_, ?_, nsP_of (ns_sbs _)⟩
    · rw [Int.toNat_natCast, hg, sbC, Ty.cells_eq]; exact Nat.le_refl 5
    · rw [Int.toNat_natCast, hg, hs, hset]; rfl
end
theorem appK_sbs {k : PV → Res} (l : Bd) (n : Int) (u : Ty) (h : l.length ≤ 1000000000) : appK Try.prog .fail 30 (.pv (sbs l)) (.pv (.rows [[iv n, iv u.kind, sv u.name, iv u.n, tys u.kids]])) k = k (sbs (l ++ [(n, u)])) := by
  have e : [iv n, iv u.kind, sv u.name, iv u.n, tys u.kids] = sbC (n, u) := by rw [sbC, Ty.cells_eq]
  rw [e]
  refine appK_of (fun w => ?_) (ns_sbs _)
  rw [app_ok sl_sbs (es := l.map sbC) (es' := [sbC (n, u)]) rfl rfl (by simp) (by intro c hc; simp at hc; subst hc; simp [sbC, Ty.cells_len]) (by simp; omega) (by simp; omega)]
  rw [sbs, List.map_append]; exact Iff.rfl
theorem appK_sb0 {k : PV → Res} (n : Int) (u : Ty) : appK Try.prog .fail 30 (.pv (.lit (.slice none 0 0))) (.pv (.rows [[iv n, iv u.kind, sv u.name, iv u.n, tys u.kids]])) k = k (sbs [(n, u)]) := by
  have e : [iv n, iv u.kind, sv u.name, iv u.n, tys u.kids] = sbC (n, u) := by rw [sbC, Ty.cells_eq]
  rw [e]
  refine appK_of (fun w => ?_) (ns_sbs _)
  rw [app_ok sl_sbs (es := []) (es' := [sbC (n, u)]) rfl rfl (by simp) (by intro c hc; simp at hc; subst hc; simp [sbC, Ty.cells_len]) (by simp) (by simp)]
  exact Iff.rfl
theorem putL_len (n : Int) (B : Ty) : ∀ L : Bd, (putL n B L).1.length = L.length
  | [] => rfl
  | (k, t) :: l => by
    rw [putL]
    split
    · rfl
    · simp [putL_len n B l]
theorem apR_one_few {n : Int} {B t : Ty} (fB : Few B) (ft : Few t) : Few (apR [(n, B)] t) := apR_few (fun z hz => by rw [List.mem_singleton.1 hz]; exact fB) t ft
theorem put_over (L : Bd) (n : Int) (B : Ty) (i : Int) : ev (q30bb0b (iv i) [[iv n, iv B.kind, sv B.name, iv B.n, tys B.kids]] (sbs L)) = some (0, [bt, sbs L, .rows [[iv n, iv B.kind, sv B.name, iv B.n, tys B.kids]]]) := Evl.of (by
  rw [h30bb0b, g30bb0b]
  by_cases h : i < (L.length : Int)
  · simp [lenK_sbs, h]
  · simp [lenK_sbs, h])
theorem put_l (n : Int) (B : Ty) (fB : Few B) : ∀ (rest done : Bd), (∀ x ∈ rest, Few x.2) → (done ++ rest).length ≤ 1000000 →
    ev (q30bb0a (iv (done.length : Int)) [[iv n, iv B.kind, sv B.name, iv B.n, tys B.kids]] (sbs (done ++ rest))) = some (0, [bv (putL n B rest).2, sbs (done ++ (putL n B rest).1), .rows [[iv n, iv B.kind, sv B.name, iv B.n, tys B.kids]]])
  | [], done, _, hl => Evl.of (by
    rw [h30bb0a, g30bb0a, putL]
    simp [lenK_sbs])
  | (k, t) :: rest, done, hf, hl => by
    have hlen : (done ++ (k, t) :: rest).length = done.length + rest.length + 1 := by simp; omega
    have hi : (done.length : Int) < ((done ++ (k, t) :: rest).length : Int) := by rw [hlen]; omega
    have hx : ∀ u : Ty, (done ++ (k, u) :: rest)[done.length]? = some (k, u) := fun u => by rw [List.getElem?_append_right (Nat.le_refl _)]; simp
    have ft := hf (k, t) List.mem_cons_self
    have fu : Few (apR [(n, B)] t) := apR_one_few fB ft
    have h1 := ap_one n B t ft
    have h2 := fun kk => setK_sbs (d := Res.fail) (kk := kk) done rest k t (apR [(n, B)] t)
    have h3 := too_ev _ fu
    have e0 := wrapI (i := done.length) (by omega)
    have ix := fun k => idxK_sbs (d := Res.fail) (k := k) (hx t)
    have iy := fun k => idxK_sbs (d := Res.fail) (k := k) (hx (apR [(n, B)] t))
    simp only at ix iy
    refine Evl.of ?_
    rw [h30bb0a, g30bb0a, putL]
    by_cases c : tooB (apR [(n, B)] t) = true
    · rw [if_pos c]
      rw [c] at h3
      have ho := put_over (done ++ (k, apR [(n, B)] t) :: rest) n B ((done.length : Int) + 1)
      generalize apR [(n, B)] t = u at *
      simp [-List.length_append, lenK_sbs, hi, ix, iy, h1, h2, h3, e0, ho]
    · rw [if_neg c]
      rw [too_f c] at h3
      have ih := put_l n B fB rest (done ++ [(k, apR [(n, B)] t)]) (fun x hx => hf x (List.mem_cons_of_mem _ hx)) (by rw [List.length_append] at hl ⊢; simp at hl ⊢; omega)
      have e1 : (((done ++ [(k, apR [(n, B)] t)]).length : Nat) : Int) = (done.length : Int) + 1 := by simp
      rw [e1] at ih
      simp only [List.append_assoc, List.cons_append, List.nil_append] at ih
      generalize apR [(n, B)] t = u at *
      simp [-List.length_append, lenK_sbs, hi, ix, iy, h1, h2, h3, e0, ih]
theorem put_b (L : Bd) (n : Int) (B : Ty) (fB : Few B) (hf : ∀ x ∈ L, Few x.2) (hl : L.length ≤ 1000000) :
    ev (q30b (iv n) (iv B.kind) (sv B.name) (iv B.n) (tys B.kids) (sbs L)) = some (0, [bv (putL n B L).2, sbs ((putL n B L).1 ++ [(n, B)])]) := Evl.of (by
  have h := put_l n B fB L [] hf (by simpa using hl)
  simp only [List.length_nil, Int.natCast_zero, Int.ofNat_zero, List.nil_append] at h
  have hk := fun k => appK_sbs (k := k) (putL n B L).1 n B (by rw [putL_len]; omega)
  rw [h30b, g30b]
  cases ho : (putL n B L).2 with
  | true => rw [ho] at h; simp [h, hk]
  | false => rw [ho] at h; simp [h, hk])
theorem put_a (n : Int) (B : Ty) : ev (q30a (iv n) (iv B.kind) (sv B.name) (iv B.n) (tys B.kids)) = some (0, [bf, sbs [(n, B)]]) := Evl.of (by
  have h : ev (q30ab0a i0 [[iv n, iv B.kind, sv B.name, iv B.n, tys B.kids]]) = some (0, [nS, bf, .rows [[iv n, iv B.kind, sv B.name, iv B.n, tys B.kids]]]) := Evl.of (by
    rw [h30ab0a, g30ab0a]
    simp)
  rw [h30a, g30a]
  simp [h, appK_sb0])
end Go.Proofs.Ytnepapfndihalaa
