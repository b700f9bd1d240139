/- Joined texts. -/
import Derived.Test.YtnepapfndihalaaBi
set_option linter.unusedVariables false
set_option linter.unusedSimpArgs false
set_option linter.unusedSectionVars false
namespace Go.Proofs.Ytnepapfndihalaa
open Go.RowKit
set_option maxHeartbeats 4000000 in
theorem hd_a {U : List Int} {C : Nat} (hC : C ≤ 1000000) {s s' : St} {L : Bd} {p : Pr} {r r2 : Bool} {q2 : EqSt} (H : StepH U C s s' L p r r2 q2) (hL : L = []) (ht : s.tr = []) (hst : s.st ≤ maxS) {l : List Pr} {i : Nat} (hx : l[i]? = some p) (hi : (i : Int) < l.length) (hb : l.length ≤ 1000) (FR : PV) (ih : Ihs U C (iv l.length) (prs l) FR s.fr ((i : Int) + 1)) :
    LawE (iv s.fr) FR (ev (q4b2a (iv (i : Int)) (iv l.length) (prs l) FR (iv s.fr) (iv s.st) (sbs s.b))) := by
  obtain ⟨f, eU⟩ := H.u
  obtain ⟨G, eO⟩ := H.o
  obtain ⟨m, t, hm0, hm1, hU⟩ := unk_a ht H.h.k H.len eU
  obtain ⟨v1, v2, _⟩ := one_v U C hC G L p.a p.b r2 q2 H.h.q H.ga H.gb eO
  have hO := v1 hL
  simp only [oneA] at hO
  rw [H.fr] at hU
  have hfr := H.fr
  have hup := H.up
  have nx := H.nx
  have keep := H.keep
  have hs0 : ∀ st2 : Int, s'.st ≤ st2 → s.st ≤ st2 := fun st2 h => by omega
  have e0 := wrapI (i := i) (by omega)
  have hmS : maxS = 1048576 := rfl
  have hcp := h13_ev
  obtain ⟨L2, o2⟩ := q2
  simp only at hO nx keep
  by_cases lim : s'.st > maxS
  · have e3 : uniE r s' = 3 := by simp [uniE, lim]
    rw [e3] at hU
    by_cases c1 : s'.tr = []
    · rw [if_pos c1] at hU
      by_cases c2 : L2 = []
      · rw [if_pos c2] at hO
        cases r2 <;> cases o2 <;> exact LawE.b0 (iv s'.st) m (Evl.of (by rw [h4b2a, g4b2a]; simp [hi, idxK_prs hx, hU, hcp, hO]))
      · rw [if_neg c2] at hO
        cases r2 <;> cases o2 <;> exact LawE.b0 (iv s'.st) m (Evl.of (by rw [h4b2a, g4b2a]; simp [hi, idxK_prs hx, hU, hcp, hO]))
    · rw [if_neg c1] at hU
      by_cases c2 : L2 = []
      · rw [if_pos c2] at hO
        cases r2 <;> cases o2 <;> exact LawE.b1 (iv s'.st) m t (Evl.of (by rw [h4b2a, g4b2a]; simp [hi, idxK_prs hx, hU, hcp, hO]))
      · rw [if_neg c2] at hO
        cases r2 <;> cases o2 <;> exact LawE.b1 (iv s'.st) m t (Evl.of (by rw [h4b2a, g4b2a]; simp [hi, idxK_prs hx, hU, hcp, hO]))
  have e0r : uniE true s' = 0 := by simp [uniE, lim]
  have e1r : uniE false s' = 140 := by simp [uniE, lim]
  have lim' : s'.st ≤ maxS := by omega
  cases r with
  | false =>
    obtain ⟨rfl, rfl⟩ := hm1 e1r
    rw [e1r] at hU
    by_cases c1 : s'.tr = []
    · rw [if_pos c1] at hU
      by_cases c2 : L2 = []
      · rw [if_pos c2] at hO
        cases o2 with
        | true => cases r2 <;> exact LawE.b0 (iv s'.st) (sbs s.b) (Evl.of (by rw [h4b2a, g4b2a]; simp [hi, idxK_prs hx, hU, hcp, hO]))
        | false =>
          obtain ⟨hr, hB⟩ := nx lim' rfl
          subst hr
          obtain ⟨st2, k1, k2⟩ := in_a hC H.h hL H.ga H.gb (iv (i : Int)) (iv l.length) (prs l) FR s'.st hup lim'
          simp only at k2
          rcases k2 with k2 | ⟨k3, k2⟩
          · exact LawE.b0 (iv st2) (sbs s.b) (Evl.of (by rw [h4b2a, g4b2a]; simp [hi, idxK_prs hx, hU, hcp, hO, k2]))
          · have hB2 := H.h.at (hs0 _ k1)
            rw [hL] at hB2
            exact (ih.a { s with st := st2 } hB2 ht k3 rfl).go fun R hR => Evl.of (by rw [h4b2a, g4b2a]; simp [hi, idxK_prs hx, hU, hcp, hO, k2, e0, hR])
      · rw [if_neg c2] at hO
        cases o2 with
        | true => cases r2 <;> exact LawE.b0 (iv s'.st) (sbs s.b) (Evl.of (by rw [h4b2a, g4b2a]; simp [hi, idxK_prs hx, hU, hcp, hO]))
        | false =>
          obtain ⟨hr, hB⟩ := nx lim' rfl
          subst hr
          obtain ⟨st2, k1, k2⟩ := in_a hC H.h hL H.ga H.gb (iv (i : Int)) (iv l.length) (prs l) FR s'.st hup lim'
          simp only at k2
          rcases k2 with k2 | ⟨k3, k2⟩
          · exact LawE.b0 (iv st2) (sbs s.b) (Evl.of (by rw [h4b2a, g4b2a]; simp [hi, idxK_prs hx, hU, hcp, hO, k2]))
          · have hB2 := H.h.at (hs0 _ k1)
            rw [hL] at hB2
            exact (ih.a { s with st := st2 } hB2 ht k3 rfl).go fun R hR => Evl.of (by rw [h4b2a, g4b2a]; simp [hi, idxK_prs hx, hU, hcp, hO, k2, e0, hR])
    · rw [if_neg c1] at hU
      by_cases c2 : L2 = []
      · rw [if_pos c2] at hO
        cases o2 with
        | true => cases r2 <;> exact LawE.b1 (iv s'.st) (sbs s.b) (ints s.tr) (Evl.of (by rw [h4b2a, g4b2a]; simp [hi, idxK_prs hx, hU, hcp, hO]))
        | false =>
          obtain ⟨hr, hB⟩ := nx lim' rfl
          subst hr
          obtain ⟨st2, k1, k2⟩ := in_c hC H.h hL H.ga H.gb (iv (i : Int)) (iv l.length) (prs l) FR s'.st hup lim'
          simp only at k2
          rcases k2 with k2 | ⟨k3, k2⟩
          · exact LawE.b1 (iv st2) (sbs s.b) (ints s.tr) (Evl.of (by rw [h4b2a, g4b2a]; simp [hi, idxK_prs hx, hU, hcp, hO, k2]))
          · have hB2 := H.h.at (hs0 _ k1)
            rw [hL] at hB2
            exact (ih.e { s with st := st2 } hB2 k3 rfl).go fun R hR => Evl.of (by rw [h4b2a, g4b2a]; simp [hi, idxK_prs hx, hU, hcp, hO, k2, e0, hR])
      · rw [if_neg c2] at hO
        cases o2 with
        | true => cases r2 <;> exact LawE.b1 (iv s'.st) (sbs s.b) (ints s.tr) (Evl.of (by rw [h4b2a, g4b2a]; simp [hi, idxK_prs hx, hU, hcp, hO]))
        | false =>
          obtain ⟨hr, hB⟩ := nx lim' rfl
          subst hr
          obtain ⟨st2, k1, k2⟩ := in_c hC H.h hL H.ga H.gb (iv (i : Int)) (iv l.length) (prs l) FR s'.st hup lim'
          simp only at k2
          rcases k2 with k2 | ⟨k3, k2⟩
          · exact LawE.b1 (iv st2) (sbs s.b) (ints s.tr) (Evl.of (by rw [h4b2a, g4b2a]; simp [hi, idxK_prs hx, hU, hcp, hO, k2]))
          · have hB2 := H.h.at (hs0 _ k1)
            rw [hL] at hB2
            exact (ih.e { s with st := st2 } hB2 k3 rfl).go fun R hR => Evl.of (by rw [h4b2a, g4b2a]; simp [hi, idxK_prs hx, hU, hcp, hO, k2, e0, hR])
  | true =>
    obtain ⟨rfl, rfl⟩ := hm0 e0r
    rw [e0r] at hU
    by_cases c1 : s'.tr = []
    · rw [if_pos c1] at hU
      by_cases c2 : L2 = []
      · rw [if_pos c2] at hO
        cases o2 with
        | true => cases r2 <;> exact LawE.b0 (iv s'.st) (sbs s'.b) (Evl.of (by rw [h4b2a, g4b2a]; simp [hi, idxK_prs hx, hU, hcp, hO]))
        | false =>
          obtain ⟨hr, hB⟩ := nx lim' rfl
          subst hr
          have hB := hB rfl
          obtain ⟨st2, k1, k2⟩ := in_a hC hB c2 H.ga H.gb (iv (i : Int)) (iv l.length) (prs l) FR s'.st (Int.le_refl _) lim'
          rw [hfr] at k2
          simp only at k2
          rcases k2 with k2 | ⟨k3, k2⟩
          · exact LawE.b0 (iv st2) (sbs s'.b) (Evl.of (by rw [h4b2a, g4b2a]; simp [hi, idxK_prs hx, hU, hcp, hO, k2]))
          · have hB2 := hB.at k1
            rw [c2] at hB2
            exact (ih.b { s' with st := st2 } hB2 c1 k3 hfr).go fun R hR => Evl.of (by rw [h4b2a, g4b2a]; simp [hi, idxK_prs hx, hU, hcp, hO, k2, e0, hR])
      · rw [if_neg c2] at hO
        cases o2 with
        | true => cases r2 <;> exact LawE.b0 (iv s'.st) (sbs s'.b) (Evl.of (by rw [h4b2a, g4b2a]; simp [hi, idxK_prs hx, hU, hcp, hO]))
        | false =>
          obtain ⟨hr, hB⟩ := nx lim' rfl
          subst hr
          have hB := hB rfl
          obtain ⟨st2, k1, k2⟩ := in_b hC hB H.ga H.gb (iv (i : Int)) (iv l.length) (prs l) FR s'.st (Int.le_refl _) lim'
          rw [hfr] at k2
          simp only at k2
          rcases k2 with k2 | ⟨k3, k2⟩
          · exact LawE.b0 (iv st2) (sbs s'.b) (Evl.of (by rw [h4b2a, g4b2a]; simp [hi, idxK_prs hx, hU, hcp, hO, k2]))
          · have hne : L2 ≠ [] := c2
            exact (ih.c { s' with st := st2 } L2 (hB.at k1) hne c1 k3 hfr).go fun R hR => Evl.of (by rw [h4b2a, g4b2a]; simp [hi, idxK_prs hx, hU, hcp, hO, k2, e0, hR])
    · rw [if_neg c1] at hU
      by_cases c2 : L2 = []
      · rw [if_pos c2] at hO
        cases o2 with
        | true => cases r2 <;> exact LawE.b1 (iv s'.st) (sbs s'.b) (ints s'.tr) (Evl.of (by rw [h4b2a, g4b2a]; simp [hi, idxK_prs hx, hU, hcp, hO]))
        | false =>
          obtain ⟨hr, hB⟩ := nx lim' rfl
          subst hr
          have hB := hB rfl
          obtain ⟨st2, k1, k2⟩ := in_c hC hB c2 H.ga H.gb (iv (i : Int)) (iv l.length) (prs l) FR s'.st (Int.le_refl _) lim'
          rw [hfr] at k2
          simp only at k2
          rcases k2 with k2 | ⟨k3, k2⟩
          · exact LawE.b1 (iv st2) (sbs s'.b) (ints s'.tr) (Evl.of (by rw [h4b2a, g4b2a]; simp [hi, idxK_prs hx, hU, hcp, hO, k2]))
          · have hB2 := hB.at k1
            rw [c2] at hB2
            exact (ih.d { s' with st := st2 } hB2 k3 hfr).go fun R hR => Evl.of (by rw [h4b2a, g4b2a]; simp [hi, idxK_prs hx, hU, hcp, hO, k2, e0, hR])
      · rw [if_neg c2] at hO
        cases o2 with
        | true => cases r2 <;> exact LawE.b1 (iv s'.st) (sbs s'.b) (ints s'.tr) (Evl.of (by rw [h4b2a, g4b2a]; simp [hi, idxK_prs hx, hU, hcp, hO]))
        | false =>
          obtain ⟨hr, hB⟩ := nx lim' rfl
          subst hr
          have hB := hB rfl
          obtain ⟨st2, k1, k2⟩ := in_d hC hB H.ga H.gb (iv (i : Int)) (iv l.length) (prs l) FR s'.st (Int.le_refl _) lim'
          rw [hfr] at k2
          simp only at k2
          rcases k2 with k2 | ⟨k3, k2⟩
          · exact LawE.b1 (iv st2) (sbs s'.b) (ints s'.tr) (Evl.of (by rw [h4b2a, g4b2a]; simp [hi, idxK_prs hx, hU, hcp, hO, k2]))
          · have hne : L2 ≠ [] := c2
            exact (ih.f { s' with st := st2 } L2 (hB.at k1) hne k3 hfr).go fun R hR => Evl.of (by rw [h4b2a, g4b2a]; simp [hi, idxK_prs hx, hU, hcp, hO, k2, e0, hR])
set_option maxHeartbeats 4000000 in
theorem hd_b {U : List Int} {C : Nat} (hC : C ≤ 1000000) {s s' : St} {L : Bd} {p : Pr} {r r2 : Bool} {q2 : EqSt} (H : StepH U C s s' L p r r2 q2) (hL : L = []) (ht : s.tr = []) (hst : s.st ≤ maxS) {l : List Pr} {i : Nat} (hx : l[i]? = some p) (hi : (i : Int) < l.length) (hb : l.length ≤ 1000) (FR : PV) (ih : Ihs U C (iv l.length) (prs l) FR s.fr ((i : Int) + 1)) :
    LawE (iv s.fr) FR (ev (q4b2b (iv (i : Int)) (iv l.length) (prs l) FR (iv s.fr) (iv s.st) (sbs s.b))) := by
  obtain ⟨f, eU⟩ := H.u
  obtain ⟨G, eO⟩ := H.o
  obtain ⟨m, t, hm0, hm1, hU⟩ := unk_a ht H.h.k H.len eU
  obtain ⟨v1, v2, _⟩ := one_v U C hC G L p.a p.b r2 q2 H.h.q H.ga H.gb eO
  have hO := v1 hL
  simp only [oneA] at hO
  rw [H.fr] at hU
  have hfr := H.fr
  have hup := H.up
  have nx := H.nx
  have keep := H.keep
  have hs0 : ∀ st2 : Int, s'.st ≤ st2 → s.st ≤ st2 := fun st2 h => by omega
  have e0 := wrapI (i := i) (by omega)
  have hmS : maxS = 1048576 := rfl
  have hcp := h13_ev
  obtain ⟨L2, o2⟩ := q2
  simp only at hO nx keep
  by_cases lim : s'.st > maxS
  · have e3 : uniE r s' = 3 := by simp [uniE, lim]
    rw [e3] at hU
    by_cases c1 : s'.tr = []
    · rw [if_pos c1] at hU
      by_cases c2 : L2 = []
      · rw [if_pos c2] at hO
        cases r2 <;> cases o2 <;> exact LawE.b0 (iv s'.st) m (Evl.of (by rw [h4b2b, g4b2b]; simp [hi, idxK_prs hx, hU, hcp, hO]))
      · rw [if_neg c2] at hO
        cases r2 <;> cases o2 <;> exact LawE.b0 (iv s'.st) m (Evl.of (by rw [h4b2b, g4b2b]; simp [hi, idxK_prs hx, hU, hcp, hO]))
    · rw [if_neg c1] at hU
      by_cases c2 : L2 = []
      · rw [if_pos c2] at hO
        cases r2 <;> cases o2 <;> exact LawE.b1 (iv s'.st) m t (Evl.of (by rw [h4b2b, g4b2b]; simp [hi, idxK_prs hx, hU, hcp, hO]))
      · rw [if_neg c2] at hO
        cases r2 <;> cases o2 <;> exact LawE.b1 (iv s'.st) m t (Evl.of (by rw [h4b2b, g4b2b]; simp [hi, idxK_prs hx, hU, hcp, hO]))
  have e0r : uniE true s' = 0 := by simp [uniE, lim]
  have e1r : uniE false s' = 140 := by simp [uniE, lim]
  have lim' : s'.st ≤ maxS := by omega
  cases r with
  | false =>
    obtain ⟨rfl, rfl⟩ := hm1 e1r
    rw [e1r] at hU
    by_cases c1 : s'.tr = []
    · rw [if_pos c1] at hU
      by_cases c2 : L2 = []
      · rw [if_pos c2] at hO
        cases o2 with
        | true => cases r2 <;> exact LawE.b0 (iv s'.st) (sbs s.b) (Evl.of (by rw [h4b2b, g4b2b]; simp [hi, idxK_prs hx, hU, hcp, hO]))
        | false =>
          obtain ⟨hr, hB⟩ := nx lim' rfl
          subst hr
          obtain ⟨st2, k1, k2⟩ := in_a hC H.h hL H.ga H.gb (iv (i : Int)) (iv l.length) (prs l) FR s'.st hup lim'
          simp only at k2
          rcases k2 with k2 | ⟨k3, k2⟩
          · exact LawE.b0 (iv st2) (sbs s.b) (Evl.of (by rw [h4b2b, g4b2b]; simp [hi, idxK_prs hx, hU, hcp, hO, k2]))
          · have hB2 := H.h.at (hs0 _ k1)
            rw [hL] at hB2
            exact (ih.b { s with st := st2 } hB2 ht k3 rfl).go fun R hR => Evl.of (by rw [h4b2b, g4b2b]; simp [hi, idxK_prs hx, hU, hcp, hO, k2, e0, hR])
      · rw [if_neg c2] at hO
        cases o2 with
        | true => cases r2 <;> exact LawE.b0 (iv s'.st) (sbs s.b) (Evl.of (by rw [h4b2b, g4b2b]; simp [hi, idxK_prs hx, hU, hcp, hO]))
        | false =>
          obtain ⟨hr, hB⟩ := nx lim' rfl
          subst hr
          obtain ⟨st2, k1, k2⟩ := in_a hC H.h hL H.ga H.gb (iv (i : Int)) (iv l.length) (prs l) FR s'.st hup lim'
          simp only at k2
          rcases k2 with k2 | ⟨k3, k2⟩
          · exact LawE.b0 (iv st2) (sbs s.b) (Evl.of (by rw [h4b2b, g4b2b]; simp [hi, idxK_prs hx, hU, hcp, hO, k2]))
          · have hB2 := H.h.at (hs0 _ k1)
            rw [hL] at hB2
            exact (ih.b { s with st := st2 } hB2 ht k3 rfl).go fun R hR => Evl.of (by rw [h4b2b, g4b2b]; simp [hi, idxK_prs hx, hU, hcp, hO, k2, e0, hR])
    · rw [if_neg c1] at hU
      by_cases c2 : L2 = []
      · rw [if_pos c2] at hO
        cases o2 with
        | true => cases r2 <;> exact LawE.b1 (iv s'.st) (sbs s.b) (ints s.tr) (Evl.of (by rw [h4b2b, g4b2b]; simp [hi, idxK_prs hx, hU, hcp, hO]))
        | false =>
          obtain ⟨hr, hB⟩ := nx lim' rfl
          subst hr
          obtain ⟨st2, k1, k2⟩ := in_c hC H.h hL H.ga H.gb (iv (i : Int)) (iv l.length) (prs l) FR s'.st hup lim'
          simp only at k2
          rcases k2 with k2 | ⟨k3, k2⟩
          · exact LawE.b1 (iv st2) (sbs s.b) (ints s.tr) (Evl.of (by rw [h4b2b, g4b2b]; simp [hi, idxK_prs hx, hU, hcp, hO, k2]))
          · have hB2 := H.h.at (hs0 _ k1)
            rw [hL] at hB2
            exact (ih.d { s with st := st2 } hB2 k3 rfl).go fun R hR => Evl.of (by rw [h4b2b, g4b2b]; simp [hi, idxK_prs hx, hU, hcp, hO, k2, e0, hR])
      · rw [if_neg c2] at hO
        cases o2 with
        | true => cases r2 <;> exact LawE.b1 (iv s'.st) (sbs s.b) (ints s.tr) (Evl.of (by rw [h4b2b, g4b2b]; simp [hi, idxK_prs hx, hU, hcp, hO]))
        | false =>
          obtain ⟨hr, hB⟩ := nx lim' rfl
          subst hr
          obtain ⟨st2, k1, k2⟩ := in_c hC H.h hL H.ga H.gb (iv (i : Int)) (iv l.length) (prs l) FR s'.st hup lim'
          simp only at k2
          rcases k2 with k2 | ⟨k3, k2⟩
          · exact LawE.b1 (iv st2) (sbs s.b) (ints s.tr) (Evl.of (by rw [h4b2b, g4b2b]; simp [hi, idxK_prs hx, hU, hcp, hO, k2]))
          · have hB2 := H.h.at (hs0 _ k1)
            rw [hL] at hB2
            exact (ih.d { s with st := st2 } hB2 k3 rfl).go fun R hR => Evl.of (by rw [h4b2b, g4b2b]; simp [hi, idxK_prs hx, hU, hcp, hO, k2, e0, hR])
  | true =>
    obtain ⟨rfl, rfl⟩ := hm0 e0r
    rw [e0r] at hU
    by_cases c1 : s'.tr = []
    · rw [if_pos c1] at hU
      by_cases c2 : L2 = []
      · rw [if_pos c2] at hO
        cases o2 with
        | true => cases r2 <;> exact LawE.b0 (iv s'.st) (sbs s'.b) (Evl.of (by rw [h4b2b, g4b2b]; simp [hi, idxK_prs hx, hU, hcp, hO]))
        | false =>
          obtain ⟨hr, hB⟩ := nx lim' rfl
          subst hr
          have hB := hB rfl
          obtain ⟨st2, k1, k2⟩ := in_a hC hB c2 H.ga H.gb (iv (i : Int)) (iv l.length) (prs l) FR s'.st (Int.le_refl _) lim'
          rw [hfr] at k2
          simp only at k2
          rcases k2 with k2 | ⟨k3, k2⟩
          · exact LawE.b0 (iv st2) (sbs s'.b) (Evl.of (by rw [h4b2b, g4b2b]; simp [hi, idxK_prs hx, hU, hcp, hO, k2]))
          · have hB2 := hB.at k1
            rw [c2] at hB2
            exact (ih.b { s' with st := st2 } hB2 c1 k3 hfr).go fun R hR => Evl.of (by rw [h4b2b, g4b2b]; simp [hi, idxK_prs hx, hU, hcp, hO, k2, e0, hR])
      · rw [if_neg c2] at hO
        cases o2 with
        | true => cases r2 <;> exact LawE.b0 (iv s'.st) (sbs s'.b) (Evl.of (by rw [h4b2b, g4b2b]; simp [hi, idxK_prs hx, hU, hcp, hO]))
        | false =>
          obtain ⟨hr, hB⟩ := nx lim' rfl
          subst hr
          have hB := hB rfl
          obtain ⟨st2, k1, k2⟩ := in_b hC hB H.ga H.gb (iv (i : Int)) (iv l.length) (prs l) FR s'.st (Int.le_refl _) lim'
          rw [hfr] at k2
          simp only at k2
          rcases k2 with k2 | ⟨k3, k2⟩
          · exact LawE.b0 (iv st2) (sbs s'.b) (Evl.of (by rw [h4b2b, g4b2b]; simp [hi, idxK_prs hx, hU, hcp, hO, k2]))
          · have hne : L2 ≠ [] := c2
            exact (ih.c { s' with st := st2 } L2 (hB.at k1) hne c1 k3 hfr).go fun R hR => Evl.of (by rw [h4b2b, g4b2b]; simp [hi, idxK_prs hx, hU, hcp, hO, k2, e0, hR])
    · rw [if_neg c1] at hU
      by_cases c2 : L2 = []
      · rw [if_pos c2] at hO
        cases o2 with
        | true => cases r2 <;> exact LawE.b1 (iv s'.st) (sbs s'.b) (ints s'.tr) (Evl.of (by rw [h4b2b, g4b2b]; simp [hi, idxK_prs hx, hU, hcp, hO]))
        | false =>
          obtain ⟨hr, hB⟩ := nx lim' rfl
          subst hr
          have hB := hB rfl
          obtain ⟨st2, k1, k2⟩ := in_c hC hB c2 H.ga H.gb (iv (i : Int)) (iv l.length) (prs l) FR s'.st (Int.le_refl _) lim'
          rw [hfr] at k2
          simp only at k2
          rcases k2 with k2 | ⟨k3, k2⟩
          · exact LawE.b1 (iv st2) (sbs s'.b) (ints s'.tr) (Evl.of (by rw [h4b2b, g4b2b]; simp [hi, idxK_prs hx, hU, hcp, hO, k2]))
          · have hB2 := hB.at k1
            rw [c2] at hB2
            exact (ih.d { s' with st := st2 } hB2 k3 hfr).go fun R hR => Evl.of (by rw [h4b2b, g4b2b]; simp [hi, idxK_prs hx, hU, hcp, hO, k2, e0, hR])
      · rw [if_neg c2] at hO
        cases o2 with
        | true => cases r2 <;> exact LawE.b1 (iv s'.st) (sbs s'.b) (ints s'.tr) (Evl.of (by rw [h4b2b, g4b2b]; simp [hi, idxK_prs hx, hU, hcp, hO]))
        | false =>
          obtain ⟨hr, hB⟩ := nx lim' rfl
          subst hr
          have hB := hB rfl
          obtain ⟨st2, k1, k2⟩ := in_d hC hB H.ga H.gb (iv (i : Int)) (iv l.length) (prs l) FR s'.st (Int.le_refl _) lim'
          rw [hfr] at k2
          simp only at k2
          rcases k2 with k2 | ⟨k3, k2⟩
          · exact LawE.b1 (iv st2) (sbs s'.b) (ints s'.tr) (Evl.of (by rw [h4b2b, g4b2b]; simp [hi, idxK_prs hx, hU, hcp, hO, k2]))
          · have hne : L2 ≠ [] := c2
            exact (ih.f { s' with st := st2 } L2 (hB.at k1) hne k3 hfr).go fun R hR => Evl.of (by rw [h4b2b, g4b2b]; simp [hi, idxK_prs hx, hU, hcp, hO, k2, e0, hR])
set_option maxHeartbeats 4000000 in
theorem hd_c {U : List Int} {C : Nat} (hC : C ≤ 1000000) {s s' : St} {L : Bd} {p : Pr} {r r2 : Bool} {q2 : EqSt} (H : StepH U C s s' L p r r2 q2) (hL : L ≠ []) (ht : s.tr = []) (hst : s.st ≤ maxS) {l : List Pr} {i : Nat} (hx : l[i]? = some p) (hi : (i : Int) < l.length) (hb : l.length ≤ 1000) (FR : PV) (ih : Ihs U C (iv l.length) (prs l) FR s.fr ((i : Int) + 1)) :
    LawE (iv s.fr) FR (ev (q4b2c (iv (i : Int)) (iv l.length) (prs l) FR (iv s.fr) (iv s.st) (sbs s.b) (sbs L))) := by
  obtain ⟨f, eU⟩ := H.u
  obtain ⟨G, eO⟩ := H.o
  obtain ⟨m, t, hm0, hm1, hU⟩ := unk_a ht H.h.k H.len eU
  obtain ⟨v1, v2, _⟩ := one_v U C hC G L p.a p.b r2 q2 H.h.q H.ga H.gb eO
  have hO := v2 hL
  simp only [oneD] at hO
  rw [H.fr] at hU
  have hfr := H.fr
  have hup := H.up
  have nx := H.nx
  have keep := H.keep
  have hs0 : ∀ st2 : Int, s'.st ≤ st2 → s.st ≤ st2 := fun st2 h => by omega
  have e0 := wrapI (i := i) (by omega)
  have hmS : maxS = 1048576 := rfl
  have hcp := h110_ev L hL (by have := H.h.q.len; omega)
  obtain ⟨L2, o2⟩ := q2
  simp only at hO nx keep
  by_cases lim : s'.st > maxS
  · have e3 : uniE r s' = 3 := by simp [uniE, lim]
    rw [e3] at hU
    by_cases c1 : s'.tr = []
    · rw [if_pos c1] at hU
      by_cases c2 : L2.length = L.length
      · rw [if_pos c2] at hO
        have hsame : L2 = L := by
          rcases keep with h1 | h1
          · exact h1
          · omega
        subst hsame
        cases r2 <;> cases o2 <;> exact LawE.b0 (iv s'.st) m (Evl.of (by rw [h4b2c, g4b2c]; simp [hi, idxK_prs hx, hU, hcp, hO]))
      · rw [if_neg c2] at hO
        cases r2 <;> cases o2 <;> exact LawE.b0 (iv s'.st) m (Evl.of (by rw [h4b2c, g4b2c]; simp [hi, idxK_prs hx, hU, hcp, hO]))
    · rw [if_neg c1] at hU
      by_cases c2 : L2.length = L.length
      · rw [if_pos c2] at hO
        have hsame : L2 = L := by
          rcases keep with h1 | h1
          · exact h1
          · omega
        subst hsame
        cases r2 <;> cases o2 <;> exact LawE.b1 (iv s'.st) m t (Evl.of (by rw [h4b2c, g4b2c]; simp [hi, idxK_prs hx, hU, hcp, hO]))
      · rw [if_neg c2] at hO
        cases r2 <;> cases o2 <;> exact LawE.b1 (iv s'.st) m t (Evl.of (by rw [h4b2c, g4b2c]; simp [hi, idxK_prs hx, hU, hcp, hO]))
  have e0r : uniE true s' = 0 := by simp [uniE, lim]
  have e1r : uniE false s' = 140 := by simp [uniE, lim]
  have lim' : s'.st ≤ maxS := by omega
  cases r with
  | false =>
    obtain ⟨rfl, rfl⟩ := hm1 e1r
    rw [e1r] at hU
    by_cases c1 : s'.tr = []
    · rw [if_pos c1] at hU
      by_cases c2 : L2.length = L.length
      · rw [if_pos c2] at hO
        have hsame : L2 = L := by
          rcases keep with h1 | h1
          · exact h1
          · omega
        subst hsame
        cases o2 with
        | true => cases r2 <;> exact LawE.b0 (iv s'.st) (sbs s.b) (Evl.of (by rw [h4b2c, g4b2c]; simp [hi, idxK_prs hx, hU, hcp, hO]))
        | false =>
          obtain ⟨hr, hB⟩ := nx lim' rfl
          subst hr
          obtain ⟨st2, k1, k2⟩ := in_b hC H.h H.ga H.gb (iv (i : Int)) (iv l.length) (prs l) FR s'.st hup lim'
          simp only at k2
          rcases k2 with k2 | ⟨k3, k2⟩
          · exact LawE.b0 (iv st2) (sbs s.b) (Evl.of (by rw [h4b2c, g4b2c]; simp [hi, idxK_prs hx, hU, hcp, hO, k2]))
          · exact (ih.c { s with st := st2 } L2 (H.h.at (hs0 _ k1)) hL ht k3 rfl).go fun R hR => Evl.of (by rw [h4b2c, g4b2c]; simp [hi, idxK_prs hx, hU, hcp, hO, k2, e0, hR])
      · rw [if_neg c2] at hO
        cases o2 with
        | true => cases r2 <;> exact LawE.b0 (iv s'.st) (sbs s.b) (Evl.of (by rw [h4b2c, g4b2c]; simp [hi, idxK_prs hx, hU, hcp, hO]))
        | false =>
          obtain ⟨hr, hB⟩ := nx lim' rfl
          subst hr
          obtain ⟨st2, k1, k2⟩ := in_b hC H.h H.ga H.gb (iv (i : Int)) (iv l.length) (prs l) FR s'.st hup lim'
          simp only at k2
          rcases k2 with k2 | ⟨k3, k2⟩
          · exact LawE.b0 (iv st2) (sbs s.b) (Evl.of (by rw [h4b2c, g4b2c]; simp [hi, idxK_prs hx, hU, hcp, hO, k2]))
          · exact (ih.c { s with st := st2 } L (H.h.at (hs0 _ k1)) hL ht k3 rfl).go fun R hR => Evl.of (by rw [h4b2c, g4b2c]; simp [hi, idxK_prs hx, hU, hcp, hO, k2, e0, hR])
    · rw [if_neg c1] at hU
      by_cases c2 : L2.length = L.length
      · rw [if_pos c2] at hO
        have hsame : L2 = L := by
          rcases keep with h1 | h1
          · exact h1
          · omega
        subst hsame
        cases o2 with
        | true => cases r2 <;> exact LawE.b1 (iv s'.st) (sbs s.b) (ints s.tr) (Evl.of (by rw [h4b2c, g4b2c]; simp [hi, idxK_prs hx, hU, hcp, hO]))
        | false =>
          obtain ⟨hr, hB⟩ := nx lim' rfl
          subst hr
          obtain ⟨st2, k1, k2⟩ := in_d hC H.h H.ga H.gb (iv (i : Int)) (iv l.length) (prs l) FR s'.st hup lim'
          simp only at k2
          rcases k2 with k2 | ⟨k3, k2⟩
          · exact LawE.b1 (iv st2) (sbs s.b) (ints s.tr) (Evl.of (by rw [h4b2c, g4b2c]; simp [hi, idxK_prs hx, hU, hcp, hO, k2]))
          · exact (ih.f { s with st := st2 } L2 (H.h.at (hs0 _ k1)) hL k3 rfl).go fun R hR => Evl.of (by rw [h4b2c, g4b2c]; simp [hi, idxK_prs hx, hU, hcp, hO, k2, e0, hR])
      · rw [if_neg c2] at hO
        cases o2 with
        | true => cases r2 <;> exact LawE.b1 (iv s'.st) (sbs s.b) (ints s.tr) (Evl.of (by rw [h4b2c, g4b2c]; simp [hi, idxK_prs hx, hU, hcp, hO]))
        | false =>
          obtain ⟨hr, hB⟩ := nx lim' rfl
          subst hr
          obtain ⟨st2, k1, k2⟩ := in_d hC H.h H.ga H.gb (iv (i : Int)) (iv l.length) (prs l) FR s'.st hup lim'
          simp only at k2
          rcases k2 with k2 | ⟨k3, k2⟩
          · exact LawE.b1 (iv st2) (sbs s.b) (ints s.tr) (Evl.of (by rw [h4b2c, g4b2c]; simp [hi, idxK_prs hx, hU, hcp, hO, k2]))
          · exact (ih.f { s with st := st2 } L (H.h.at (hs0 _ k1)) hL k3 rfl).go fun R hR => Evl.of (by rw [h4b2c, g4b2c]; simp [hi, idxK_prs hx, hU, hcp, hO, k2, e0, hR])
  | true =>
    obtain ⟨rfl, rfl⟩ := hm0 e0r
    rw [e0r] at hU
    by_cases c1 : s'.tr = []
    · rw [if_pos c1] at hU
      by_cases c2 : L2.length = L.length
      · rw [if_pos c2] at hO
        have hsame : L2 = L := by
          rcases keep with h1 | h1
          · exact h1
          · omega
        subst hsame
        cases o2 with
        | true => cases r2 <;> exact LawE.b0 (iv s'.st) (sbs s'.b) (Evl.of (by rw [h4b2c, g4b2c]; simp [hi, idxK_prs hx, hU, hcp, hO]))
        | false =>
          obtain ⟨hr, hB⟩ := nx lim' rfl
          subst hr
          have hB := hB rfl
          obtain ⟨st2, k1, k2⟩ := in_b hC hB H.ga H.gb (iv (i : Int)) (iv l.length) (prs l) FR s'.st (Int.le_refl _) lim'
          rw [hfr] at k2
          simp only at k2
          rcases k2 with k2 | ⟨k3, k2⟩
          · exact LawE.b0 (iv st2) (sbs s'.b) (Evl.of (by rw [h4b2c, g4b2c]; simp [hi, idxK_prs hx, hU, hcp, hO, k2]))
          · have hne : L2 ≠ [] := by
              rcases keep with h1 | h1
              · rw [h1]; exact hL
              · intro h9; rw [h9] at h1; simp at h1
            exact (ih.c { s' with st := st2 } L2 (hB.at k1) hne c1 k3 hfr).go fun R hR => Evl.of (by rw [h4b2c, g4b2c]; simp [hi, idxK_prs hx, hU, hcp, hO, k2, e0, hR])
      · rw [if_neg c2] at hO
        cases o2 with
        | true => cases r2 <;> exact LawE.b0 (iv s'.st) (sbs s'.b) (Evl.of (by rw [h4b2c, g4b2c]; simp [hi, idxK_prs hx, hU, hcp, hO]))
        | false =>
          obtain ⟨hr, hB⟩ := nx lim' rfl
          subst hr
          have hB := hB rfl
          obtain ⟨st2, k1, k2⟩ := in_b hC hB H.ga H.gb (iv (i : Int)) (iv l.length) (prs l) FR s'.st (Int.le_refl _) lim'
          rw [hfr] at k2
          simp only at k2
          rcases k2 with k2 | ⟨k3, k2⟩
          · exact LawE.b0 (iv st2) (sbs s'.b) (Evl.of (by rw [h4b2c, g4b2c]; simp [hi, idxK_prs hx, hU, hcp, hO, k2]))
          · have hne : L2 ≠ [] := by
              rcases keep with h1 | h1
              · rw [h1]; exact hL
              · intro h9; rw [h9] at h1; simp at h1
            exact (ih.c { s' with st := st2 } L2 (hB.at k1) hne c1 k3 hfr).go fun R hR => Evl.of (by rw [h4b2c, g4b2c]; simp [hi, idxK_prs hx, hU, hcp, hO, k2, e0, hR])
    · rw [if_neg c1] at hU
      by_cases c2 : L2.length = L.length
      · rw [if_pos c2] at hO
        have hsame : L2 = L := by
          rcases keep with h1 | h1
          · exact h1
          · omega
        subst hsame
        cases o2 with
        | true => cases r2 <;> exact LawE.b1 (iv s'.st) (sbs s'.b) (ints s'.tr) (Evl.of (by rw [h4b2c, g4b2c]; simp [hi, idxK_prs hx, hU, hcp, hO]))
        | false =>
          obtain ⟨hr, hB⟩ := nx lim' rfl
          subst hr
          have hB := hB rfl
          obtain ⟨st2, k1, k2⟩ := in_d hC hB H.ga H.gb (iv (i : Int)) (iv l.length) (prs l) FR s'.st (Int.le_refl _) lim'
          rw [hfr] at k2
          simp only at k2
          rcases k2 with k2 | ⟨k3, k2⟩
          · exact LawE.b1 (iv st2) (sbs s'.b) (ints s'.tr) (Evl.of (by rw [h4b2c, g4b2c]; simp [hi, idxK_prs hx, hU, hcp, hO, k2]))
          · have hne : L2 ≠ [] := by
              rcases keep with h1 | h1
              · rw [h1]; exact hL
              · intro h9; rw [h9] at h1; simp at h1
            exact (ih.f { s' with st := st2 } L2 (hB.at k1) hne k3 hfr).go fun R hR => Evl.of (by rw [h4b2c, g4b2c]; simp [hi, idxK_prs hx, hU, hcp, hO, k2, e0, hR])
      · rw [if_neg c2] at hO
        cases o2 with
        | true => cases r2 <;> exact LawE.b1 (iv s'.st) (sbs s'.b) (ints s'.tr) (Evl.of (by rw [h4b2c, g4b2c]; simp [hi, idxK_prs hx, hU, hcp, hO]))
        | false =>
          obtain ⟨hr, hB⟩ := nx lim' rfl
          subst hr
          have hB := hB rfl
          obtain ⟨st2, k1, k2⟩ := in_d hC hB H.ga H.gb (iv (i : Int)) (iv l.length) (prs l) FR s'.st (Int.le_refl _) lim'
          rw [hfr] at k2
          simp only at k2
          rcases k2 with k2 | ⟨k3, k2⟩
          · exact LawE.b1 (iv st2) (sbs s'.b) (ints s'.tr) (Evl.of (by rw [h4b2c, g4b2c]; simp [hi, idxK_prs hx, hU, hcp, hO, k2]))
          · have hne : L2 ≠ [] := by
              rcases keep with h1 | h1
              · rw [h1]; exact hL
              · intro h9; rw [h9] at h1; simp at h1
            exact (ih.f { s' with st := st2 } L2 (hB.at k1) hne k3 hfr).go fun R hR => Evl.of (by rw [h4b2c, g4b2c]; simp [hi, idxK_prs hx, hU, hcp, hO, k2, e0, hR])
set_option maxHeartbeats 4000000 in
theorem hd_d {U : List Int} {C : Nat} (hC : C ≤ 1000000) {s s' : St} {L : Bd} {p : Pr} {r r2 : Bool} {q2 : EqSt} (H : StepH U C s s' L p r r2 q2) (hL : L = []) (hst : s.st ≤ maxS) {l : List Pr} {i : Nat} (hx : l[i]? = some p) (hi : (i : Int) < l.length) (hb : l.length ≤ 1000) (FR : PV) (ih : Ihs U C (iv l.length) (prs l) FR s.fr ((i : Int) + 1)) :
    LawE (iv s.fr) FR (ev (q4b2d (iv (i : Int)) (iv l.length) (prs l) FR (iv s.fr) (iv s.st) (sbs s.b) (ints s.tr))) := by
  obtain ⟨f, eU⟩ := H.u
  obtain ⟨G, eO⟩ := H.o
  obtain ⟨m, t, hm0, hm1, hm2, hU⟩ := unk_b H.h.k H.len eU
  obtain ⟨v1, v2, _⟩ := one_v U C hC G L p.a p.b r2 q2 H.h.q H.ga H.gb eO
  have hO := v1 hL
  simp only [oneA] at hO
  rw [H.fr] at hU
  have hfr := H.fr
  have hup := H.up
  have nx := H.nx
  have keep := H.keep
  have hs0 : ∀ st2 : Int, s'.st ≤ st2 → s.st ≤ st2 := fun st2 h => by omega
  have e0 := wrapI (i := i) (by omega)
  have hmS : maxS = 1048576 := rfl
  have hcp := h13_ev
  obtain ⟨L2, o2⟩ := q2
  simp only at hO nx keep
  by_cases lim : s'.st > maxS
  · have e3 : uniE r s' = 3 := by simp [uniE, lim]
    by_cases c1 : s'.tr.length = s.tr.length
    · have ht2 := hm2 ⟨c1, by rw [e3]; simp⟩
      rw [e3, if_pos ⟨c1, by simp⟩, ht2] at hU
      by_cases c2 : L2 = []
      · rw [if_pos c2] at hO
        cases r2 <;> cases o2 <;> exact LawE.b1 (iv s'.st) m (ints s.tr) (Evl.of (by rw [h4b2d, g4b2d]; simp [hi, idxK_prs hx, hU, hcp, hO]))
      · rw [if_neg c2] at hO
        cases r2 <;> cases o2 <;> exact LawE.b1 (iv s'.st) m (ints s.tr) (Evl.of (by rw [h4b2d, g4b2d]; simp [hi, idxK_prs hx, hU, hcp, hO]))
    · rw [e3, if_neg (fun e => c1 e.1)] at hU
      by_cases c2 : L2 = []
      · rw [if_pos c2] at hO
        cases r2 <;> cases o2 <;> exact LawE.b1 (iv s'.st) m t (Evl.of (by rw [h4b2d, g4b2d]; simp [hi, idxK_prs hx, hU, hcp, hO]))
      · rw [if_neg c2] at hO
        cases r2 <;> cases o2 <;> exact LawE.b1 (iv s'.st) m t (Evl.of (by rw [h4b2d, g4b2d]; simp [hi, idxK_prs hx, hU, hcp, hO]))
  have e0r : uniE true s' = 0 := by simp [uniE, lim]
  have e1r : uniE false s' = 140 := by simp [uniE, lim]
  have lim' : s'.st ≤ maxS := by omega
  cases r with
  | false =>
    obtain ⟨rfl, rfl⟩ := hm1 e1r
    rw [e1r] at hU
    rw [if_neg (fun e => e.2 rfl)] at hU
    by_cases c2 : L2 = []
    · rw [if_pos c2] at hO
      cases o2 with
      | true => cases r2 <;> exact LawE.b1 (iv s'.st) (sbs s.b) (ints s.tr) (Evl.of (by rw [h4b2d, g4b2d]; simp [hi, idxK_prs hx, hU, hcp, hO]))
      | false =>
        obtain ⟨hr, hB⟩ := nx lim' rfl
        subst hr
        obtain ⟨st2, k1, k2⟩ := in_c hC H.h hL H.ga H.gb (iv (i : Int)) (iv l.length) (prs l) FR s'.st hup lim'
        simp only at k2
        rcases k2 with k2 | ⟨k3, k2⟩
        · exact LawE.b1 (iv st2) (sbs s.b) (ints s.tr) (Evl.of (by rw [h4b2d, g4b2d]; simp [hi, idxK_prs hx, hU, hcp, hO, k2]))
        · have hB2 := H.h.at (hs0 _ k1)
          rw [hL] at hB2
          exact (ih.d { s with st := st2 } hB2 k3 rfl).go fun R hR => Evl.of (by rw [h4b2d, g4b2d]; simp [hi, idxK_prs hx, hU, hcp, hO, k2, e0, hR])
    · rw [if_neg c2] at hO
      cases o2 with
      | true => cases r2 <;> exact LawE.b1 (iv s'.st) (sbs s.b) (ints s.tr) (Evl.of (by rw [h4b2d, g4b2d]; simp [hi, idxK_prs hx, hU, hcp, hO]))
      | false =>
        obtain ⟨hr, hB⟩ := nx lim' rfl
        subst hr
        obtain ⟨st2, k1, k2⟩ := in_c hC H.h hL H.ga H.gb (iv (i : Int)) (iv l.length) (prs l) FR s'.st hup lim'
        simp only at k2
        rcases k2 with k2 | ⟨k3, k2⟩
        · exact LawE.b1 (iv st2) (sbs s.b) (ints s.tr) (Evl.of (by rw [h4b2d, g4b2d]; simp [hi, idxK_prs hx, hU, hcp, hO, k2]))
        · have hB2 := H.h.at (hs0 _ k1)
          rw [hL] at hB2
          exact (ih.d { s with st := st2 } hB2 k3 rfl).go fun R hR => Evl.of (by rw [h4b2d, g4b2d]; simp [hi, idxK_prs hx, hU, hcp, hO, k2, e0, hR])
  | true =>
    obtain ⟨rfl, rfl⟩ := hm0 e0r
    rw [e0r] at hU
    by_cases c1 : s'.tr.length = s.tr.length
    · have htr := H.tl c1
      rw [if_pos ⟨c1, by simp⟩, htr] at hU
      by_cases c2 : L2 = []
      · rw [if_pos c2] at hO
        cases o2 with
        | true => cases r2 <;> exact LawE.b1 (iv s'.st) (sbs s'.b) (ints s.tr) (Evl.of (by rw [h4b2d, g4b2d]; simp [hi, idxK_prs hx, hU, hcp, hO]))
        | false =>
          obtain ⟨hr, hB⟩ := nx lim' rfl
          subst hr
          have hB := hB rfl
          obtain ⟨st2, k1, k2⟩ := in_c hC hB c2 H.ga H.gb (iv (i : Int)) (iv l.length) (prs l) FR s'.st (Int.le_refl _) lim'
          rw [hfr] at k2
          rw [htr] at k2
          simp only at k2
          rcases k2 with k2 | ⟨k3, k2⟩
          · exact LawE.b1 (iv st2) (sbs s'.b) (ints s.tr) (Evl.of (by rw [h4b2d, g4b2d]; simp [hi, idxK_prs hx, hU, hcp, hO, k2]))
          · have hB2 := hB.at k1
            rw [c2] at hB2
            exact (ih.d { s' with st := st2 } hB2 k3 hfr).go fun R hR => by simp only [htr] at hR; exact Evl.of (by rw [h4b2d, g4b2d]; simp [hi, idxK_prs hx, hU, hcp, hO, k2, e0, hR])
      · rw [if_neg c2] at hO
        cases o2 with
        | true => cases r2 <;> exact LawE.b1 (iv s'.st) (sbs s'.b) (ints s.tr) (Evl.of (by rw [h4b2d, g4b2d]; simp [hi, idxK_prs hx, hU, hcp, hO]))
        | false =>
          obtain ⟨hr, hB⟩ := nx lim' rfl
          subst hr
          have hB := hB rfl
          obtain ⟨st2, k1, k2⟩ := in_d hC hB H.ga H.gb (iv (i : Int)) (iv l.length) (prs l) FR s'.st (Int.le_refl _) lim'
          rw [hfr] at k2
          rw [htr] at k2
          simp only at k2
          rcases k2 with k2 | ⟨k3, k2⟩
          · exact LawE.b1 (iv st2) (sbs s'.b) (ints s.tr) (Evl.of (by rw [h4b2d, g4b2d]; simp [hi, idxK_prs hx, hU, hcp, hO, k2]))
          · have hne : L2 ≠ [] := c2
            exact (ih.f { s' with st := st2 } L2 (hB.at k1) hne k3 hfr).go fun R hR => by simp only [htr] at hR; exact Evl.of (by rw [h4b2d, g4b2d]; simp [hi, idxK_prs hx, hU, hcp, hO, k2, e0, hR])
    · rw [if_neg (fun e => c1 e.1)] at hU
      by_cases c2 : L2 = []
      · rw [if_pos c2] at hO
        cases o2 with
        | true => cases r2 <;> exact LawE.b1 (iv s'.st) (sbs s'.b) (ints s'.tr) (Evl.of (by rw [h4b2d, g4b2d]; simp [hi, idxK_prs hx, hU, hcp, hO]))
        | false =>
          obtain ⟨hr, hB⟩ := nx lim' rfl
          subst hr
          have hB := hB rfl
          obtain ⟨st2, k1, k2⟩ := in_c hC hB c2 H.ga H.gb (iv (i : Int)) (iv l.length) (prs l) FR s'.st (Int.le_refl _) lim'
          rw [hfr] at k2
          simp only at k2
          rcases k2 with k2 | ⟨k3, k2⟩
          · exact LawE.b1 (iv st2) (sbs s'.b) (ints s'.tr) (Evl.of (by rw [h4b2d, g4b2d]; simp [hi, idxK_prs hx, hU, hcp, hO, k2]))
          · have hB2 := hB.at k1
            rw [c2] at hB2
            exact (ih.d { s' with st := st2 } hB2 k3 hfr).go fun R hR => Evl.of (by rw [h4b2d, g4b2d]; simp [hi, idxK_prs hx, hU, hcp, hO, k2, e0, hR])
      · rw [if_neg c2] at hO
        cases o2 with
        | true => cases r2 <;> exact LawE.b1 (iv s'.st) (sbs s'.b) (ints s'.tr) (Evl.of (by rw [h4b2d, g4b2d]; simp [hi, idxK_prs hx, hU, hcp, hO]))
        | false =>
          obtain ⟨hr, hB⟩ := nx lim' rfl
          subst hr
          have hB := hB rfl
          obtain ⟨st2, k1, k2⟩ := in_d hC hB H.ga H.gb (iv (i : Int)) (iv l.length) (prs l) FR s'.st (Int.le_refl _) lim'
          rw [hfr] at k2
          simp only at k2
          rcases k2 with k2 | ⟨k3, k2⟩
          · exact LawE.b1 (iv st2) (sbs s'.b) (ints s'.tr) (Evl.of (by rw [h4b2d, g4b2d]; simp [hi, idxK_prs hx, hU, hcp, hO, k2]))
          · have hne : L2 ≠ [] := c2
            exact (ih.f { s' with st := st2 } L2 (hB.at k1) hne k3 hfr).go fun R hR => Evl.of (by rw [h4b2d, g4b2d]; simp [hi, idxK_prs hx, hU, hcp, hO, k2, e0, hR])
set_option maxHeartbeats 4000000 in
theorem hd_e {U : List Int} {C : Nat} (hC : C ≤ 1000000) {s s' : St} {L : Bd} {p : Pr} {r r2 : Bool} {q2 : EqSt} (H : StepH U C s s' L p r r2 q2) (hL : L = []) (hst : s.st ≤ maxS) {l : List Pr} {i : Nat} (hx : l[i]? = some p) (hi : (i : Int) < l.length) (hb : l.length ≤ 1000) (FR : PV) (ih : Ihs U C (iv l.length) (prs l) FR s.fr ((i : Int) + 1)) :
    LawE (iv s.fr) FR (ev (q4b2e (iv (i : Int)) (iv l.length) (prs l) FR (iv s.fr) (iv s.st) (sbs s.b) (ints s.tr))) := by
  obtain ⟨f, eU⟩ := H.u
  obtain ⟨G, eO⟩ := H.o
  obtain ⟨m, t, hm0, hm1, hm2, hU⟩ := unk_b H.h.k H.len eU
  obtain ⟨v1, v2, _⟩ := one_v U C hC G L p.a p.b r2 q2 H.h.q H.ga H.gb eO
  have hO := v1 hL
  simp only [oneA] at hO
  rw [H.fr] at hU
  have hfr := H.fr
  have hup := H.up
  have nx := H.nx
  have keep := H.keep
  have hs0 : ∀ st2 : Int, s'.st ≤ st2 → s.st ≤ st2 := fun st2 h => by omega
  have e0 := wrapI (i := i) (by omega)
  have hmS : maxS = 1048576 := rfl
  have hcp := h13_ev
  obtain ⟨L2, o2⟩ := q2
  simp only at hO nx keep
  by_cases lim : s'.st > maxS
  · have e3 : uniE r s' = 3 := by simp [uniE, lim]
    by_cases c1 : s'.tr.length = s.tr.length
    · have ht2 := hm2 ⟨c1, by rw [e3]; simp⟩
      rw [e3, if_pos ⟨c1, by simp⟩, ht2] at hU
      by_cases c2 : L2 = []
      · rw [if_pos c2] at hO
        cases r2 <;> cases o2 <;> exact LawE.b1 (iv s'.st) m (ints s.tr) (Evl.of (by rw [h4b2e, g4b2e]; simp [hi, idxK_prs hx, hU, hcp, hO]))
      · rw [if_neg c2] at hO
        cases r2 <;> cases o2 <;> exact LawE.b1 (iv s'.st) m (ints s.tr) (Evl.of (by rw [h4b2e, g4b2e]; simp [hi, idxK_prs hx, hU, hcp, hO]))
    · rw [e3, if_neg (fun e => c1 e.1)] at hU
      by_cases c2 : L2 = []
      · rw [if_pos c2] at hO
        cases r2 <;> cases o2 <;> exact LawE.b1 (iv s'.st) m t (Evl.of (by rw [h4b2e, g4b2e]; simp [hi, idxK_prs hx, hU, hcp, hO]))
      · rw [if_neg c2] at hO
        cases r2 <;> cases o2 <;> exact LawE.b1 (iv s'.st) m t (Evl.of (by rw [h4b2e, g4b2e]; simp [hi, idxK_prs hx, hU, hcp, hO]))
  have e0r : uniE true s' = 0 := by simp [uniE, lim]
  have e1r : uniE false s' = 140 := by simp [uniE, lim]
  have lim' : s'.st ≤ maxS := by omega
  cases r with
  | false =>
    obtain ⟨rfl, rfl⟩ := hm1 e1r
    rw [e1r] at hU
    rw [if_neg (fun e => e.2 rfl)] at hU
    by_cases c2 : L2 = []
    · rw [if_pos c2] at hO
      cases o2 with
      | true => cases r2 <;> exact LawE.b1 (iv s'.st) (sbs s.b) (ints s.tr) (Evl.of (by rw [h4b2e, g4b2e]; simp [hi, idxK_prs hx, hU, hcp, hO]))
      | false =>
        obtain ⟨hr, hB⟩ := nx lim' rfl
        subst hr
        obtain ⟨st2, k1, k2⟩ := in_c hC H.h hL H.ga H.gb (iv (i : Int)) (iv l.length) (prs l) FR s'.st hup lim'
        simp only at k2
        rcases k2 with k2 | ⟨k3, k2⟩
        · exact LawE.b1 (iv st2) (sbs s.b) (ints s.tr) (Evl.of (by rw [h4b2e, g4b2e]; simp [hi, idxK_prs hx, hU, hcp, hO, k2]))
        · have hB2 := H.h.at (hs0 _ k1)
          rw [hL] at hB2
          exact (ih.e { s with st := st2 } hB2 k3 rfl).go fun R hR => Evl.of (by rw [h4b2e, g4b2e]; simp [hi, idxK_prs hx, hU, hcp, hO, k2, e0, hR])
    · rw [if_neg c2] at hO
      cases o2 with
      | true => cases r2 <;> exact LawE.b1 (iv s'.st) (sbs s.b) (ints s.tr) (Evl.of (by rw [h4b2e, g4b2e]; simp [hi, idxK_prs hx, hU, hcp, hO]))
      | false =>
        obtain ⟨hr, hB⟩ := nx lim' rfl
        subst hr
        obtain ⟨st2, k1, k2⟩ := in_c hC H.h hL H.ga H.gb (iv (i : Int)) (iv l.length) (prs l) FR s'.st hup lim'
        simp only at k2
        rcases k2 with k2 | ⟨k3, k2⟩
        · exact LawE.b1 (iv st2) (sbs s.b) (ints s.tr) (Evl.of (by rw [h4b2e, g4b2e]; simp [hi, idxK_prs hx, hU, hcp, hO, k2]))
        · have hB2 := H.h.at (hs0 _ k1)
          rw [hL] at hB2
          exact (ih.e { s with st := st2 } hB2 k3 rfl).go fun R hR => Evl.of (by rw [h4b2e, g4b2e]; simp [hi, idxK_prs hx, hU, hcp, hO, k2, e0, hR])
  | true =>
    obtain ⟨rfl, rfl⟩ := hm0 e0r
    rw [e0r] at hU
    by_cases c1 : s'.tr.length = s.tr.length
    · have htr := H.tl c1
      rw [if_pos ⟨c1, by simp⟩, htr] at hU
      by_cases c2 : L2 = []
      · rw [if_pos c2] at hO
        cases o2 with
        | true => cases r2 <;> exact LawE.b1 (iv s'.st) (sbs s'.b) (ints s.tr) (Evl.of (by rw [h4b2e, g4b2e]; simp [hi, idxK_prs hx, hU, hcp, hO]))
        | false =>
          obtain ⟨hr, hB⟩ := nx lim' rfl
          subst hr
          have hB := hB rfl
          obtain ⟨st2, k1, k2⟩ := in_c hC hB c2 H.ga H.gb (iv (i : Int)) (iv l.length) (prs l) FR s'.st (Int.le_refl _) lim'
          rw [hfr] at k2
          rw [htr] at k2
          simp only at k2
          rcases k2 with k2 | ⟨k3, k2⟩
          · exact LawE.b1 (iv st2) (sbs s'.b) (ints s.tr) (Evl.of (by rw [h4b2e, g4b2e]; simp [hi, idxK_prs hx, hU, hcp, hO, k2]))
          · have hB2 := hB.at k1
            rw [c2] at hB2
            exact (ih.d { s' with st := st2 } hB2 k3 hfr).go fun R hR => by simp only [htr] at hR; exact Evl.of (by rw [h4b2e, g4b2e]; simp [hi, idxK_prs hx, hU, hcp, hO, k2, e0, hR])
      · rw [if_neg c2] at hO
        cases o2 with
        | true => cases r2 <;> exact LawE.b1 (iv s'.st) (sbs s'.b) (ints s.tr) (Evl.of (by rw [h4b2e, g4b2e]; simp [hi, idxK_prs hx, hU, hcp, hO]))
        | false =>
          obtain ⟨hr, hB⟩ := nx lim' rfl
          subst hr
          have hB := hB rfl
          obtain ⟨st2, k1, k2⟩ := in_d hC hB H.ga H.gb (iv (i : Int)) (iv l.length) (prs l) FR s'.st (Int.le_refl _) lim'
          rw [hfr] at k2
          rw [htr] at k2
          simp only at k2
          rcases k2 with k2 | ⟨k3, k2⟩
          · exact LawE.b1 (iv st2) (sbs s'.b) (ints s.tr) (Evl.of (by rw [h4b2e, g4b2e]; simp [hi, idxK_prs hx, hU, hcp, hO, k2]))
          · have hne : L2 ≠ [] := c2
            exact (ih.f { s' with st := st2 } L2 (hB.at k1) hne k3 hfr).go fun R hR => by simp only [htr] at hR; exact Evl.of (by rw [h4b2e, g4b2e]; simp [hi, idxK_prs hx, hU, hcp, hO, k2, e0, hR])
    · rw [if_neg (fun e => c1 e.1)] at hU
      by_cases c2 : L2 = []
      · rw [if_pos c2] at hO
        cases o2 with
        | true => cases r2 <;> exact LawE.b1 (iv s'.st) (sbs s'.b) (ints s'.tr) (Evl.of (by rw [h4b2e, g4b2e]; simp [hi, idxK_prs hx, hU, hcp, hO]))
        | false =>
          obtain ⟨hr, hB⟩ := nx lim' rfl
          subst hr
          have hB := hB rfl
          obtain ⟨st2, k1, k2⟩ := in_c hC hB c2 H.ga H.gb (iv (i : Int)) (iv l.length) (prs l) FR s'.st (Int.le_refl _) lim'
          rw [hfr] at k2
          simp only at k2
          rcases k2 with k2 | ⟨k3, k2⟩
          · exact LawE.b1 (iv st2) (sbs s'.b) (ints s'.tr) (Evl.of (by rw [h4b2e, g4b2e]; simp [hi, idxK_prs hx, hU, hcp, hO, k2]))
          · have hB2 := hB.at k1
            rw [c2] at hB2
            exact (ih.d { s' with st := st2 } hB2 k3 hfr).go fun R hR => Evl.of (by rw [h4b2e, g4b2e]; simp [hi, idxK_prs hx, hU, hcp, hO, k2, e0, hR])
      · rw [if_neg c2] at hO
        cases o2 with
        | true => cases r2 <;> exact LawE.b1 (iv s'.st) (sbs s'.b) (ints s'.tr) (Evl.of (by rw [h4b2e, g4b2e]; simp [hi, idxK_prs hx, hU, hcp, hO]))
        | false =>
          obtain ⟨hr, hB⟩ := nx lim' rfl
          subst hr
          have hB := hB rfl
          obtain ⟨st2, k1, k2⟩ := in_d hC hB H.ga H.gb (iv (i : Int)) (iv l.length) (prs l) FR s'.st (Int.le_refl _) lim'
          rw [hfr] at k2
          simp only at k2
          rcases k2 with k2 | ⟨k3, k2⟩
          · exact LawE.b1 (iv st2) (sbs s'.b) (ints s'.tr) (Evl.of (by rw [h4b2e, g4b2e]; simp [hi, idxK_prs hx, hU, hcp, hO, k2]))
          · have hne : L2 ≠ [] := c2
            exact (ih.f { s' with st := st2 } L2 (hB.at k1) hne k3 hfr).go fun R hR => Evl.of (by rw [h4b2e, g4b2e]; simp [hi, idxK_prs hx, hU, hcp, hO, k2, e0, hR])
set_option maxHeartbeats 4000000 in
theorem hd_f {U : List Int} {C : Nat} (hC : C ≤ 1000000) {s s' : St} {L : Bd} {p : Pr} {r r2 : Bool} {q2 : EqSt} (H : StepH U C s s' L p r r2 q2) (hL : L ≠ []) (hst : s.st ≤ maxS) {l : List Pr} {i : Nat} (hx : l[i]? = some p) (hi : (i : Int) < l.length) (hb : l.length ≤ 1000) (FR : PV) (ih : Ihs U C (iv l.length) (prs l) FR s.fr ((i : Int) + 1)) :
    LawE (iv s.fr) FR (ev (q4b2f (iv (i : Int)) (iv l.length) (prs l) FR (iv s.fr) (iv s.st) (sbs s.b) (ints s.tr) (sbs L))) := by
  obtain ⟨f, eU⟩ := H.u
  obtain ⟨G, eO⟩ := H.o
  obtain ⟨m, t, hm0, hm1, hm2, hU⟩ := unk_b H.h.k H.len eU
  obtain ⟨v1, v2, _⟩ := one_v U C hC G L p.a p.b r2 q2 H.h.q H.ga H.gb eO
  have hO := v2 hL
  simp only [oneD] at hO
  rw [H.fr] at hU
  have hfr := H.fr
  have hup := H.up
  have nx := H.nx
  have keep := H.keep
  have hs0 : ∀ st2 : Int, s'.st ≤ st2 → s.st ≤ st2 := fun st2 h => by omega
  have e0 := wrapI (i := i) (by omega)
  have hmS : maxS = 1048576 := rfl
  have hcp := h110_ev L hL (by have := H.h.q.len; omega)
  obtain ⟨L2, o2⟩ := q2
  simp only at hO nx keep
  by_cases lim : s'.st > maxS
  · have e3 : uniE r s' = 3 := by simp [uniE, lim]
    by_cases c1 : s'.tr.length = s.tr.length
    · have ht2 := hm2 ⟨c1, by rw [e3]; simp⟩
      rw [e3, if_pos ⟨c1, by simp⟩, ht2] at hU
      by_cases c2 : L2.length = L.length
      · rw [if_pos c2] at hO
        have hsame : L2 = L := by
          rcases keep with h1 | h1
          · exact h1
          · omega
        subst hsame
        cases r2 <;> cases o2 <;> exact LawE.b1 (iv s'.st) m (ints s.tr) (Evl.of (by rw [h4b2f, g4b2f]; simp [hi, idxK_prs hx, hU, hcp, hO]))
      · rw [if_neg c2] at hO
        cases r2 <;> cases o2 <;> exact LawE.b1 (iv s'.st) m (ints s.tr) (Evl.of (by rw [h4b2f, g4b2f]; simp [hi, idxK_prs hx, hU, hcp, hO]))
    · rw [e3, if_neg (fun e => c1 e.1)] at hU
      by_cases c2 : L2.length = L.length
      · rw [if_pos c2] at hO
        have hsame : L2 = L := by
          rcases keep with h1 | h1
          · exact h1
          · omega
        subst hsame
        cases r2 <;> cases o2 <;> exact LawE.b1 (iv s'.st) m t (Evl.of (by rw [h4b2f, g4b2f]; simp [hi, idxK_prs hx, hU, hcp, hO]))
      · rw [if_neg c2] at hO
        cases r2 <;> cases o2 <;> exact LawE.b1 (iv s'.st) m t (Evl.of (by rw [h4b2f, g4b2f]; simp [hi, idxK_prs hx, hU, hcp, hO]))
  have e0r : uniE true s' = 0 := by simp [uniE, lim]
  have e1r : uniE false s' = 140 := by simp [uniE, lim]
  have lim' : s'.st ≤ maxS := by omega
  cases r with
  | false =>
    obtain ⟨rfl, rfl⟩ := hm1 e1r
    rw [e1r] at hU
    rw [if_neg (fun e => e.2 rfl)] at hU
    by_cases c2 : L2.length = L.length
    · rw [if_pos c2] at hO
      have hsame : L2 = L := by
        rcases keep with h1 | h1
        · exact h1
        · omega
      subst hsame
      cases o2 with
      | true => cases r2 <;> exact LawE.b1 (iv s'.st) (sbs s.b) (ints s.tr) (Evl.of (by rw [h4b2f, g4b2f]; simp [hi, idxK_prs hx, hU, hcp, hO]))
      | false =>
        obtain ⟨hr, hB⟩ := nx lim' rfl
        subst hr
        obtain ⟨st2, k1, k2⟩ := in_d hC H.h H.ga H.gb (iv (i : Int)) (iv l.length) (prs l) FR s'.st hup lim'
        simp only at k2
        rcases k2 with k2 | ⟨k3, k2⟩
        · exact LawE.b1 (iv st2) (sbs s.b) (ints s.tr) (Evl.of (by rw [h4b2f, g4b2f]; simp [hi, idxK_prs hx, hU, hcp, hO, k2]))
        · exact (ih.f { s with st := st2 } L2 (H.h.at (hs0 _ k1)) hL k3 rfl).go fun R hR => Evl.of (by rw [h4b2f, g4b2f]; simp [hi, idxK_prs hx, hU, hcp, hO, k2, e0, hR])
    · rw [if_neg c2] at hO
      cases o2 with
      | true => cases r2 <;> exact LawE.b1 (iv s'.st) (sbs s.b) (ints s.tr) (Evl.of (by rw [h4b2f, g4b2f]; simp [hi, idxK_prs hx, hU, hcp, hO]))
      | false =>
        obtain ⟨hr, hB⟩ := nx lim' rfl
        subst hr
        obtain ⟨st2, k1, k2⟩ := in_d hC H.h H.ga H.gb (iv (i : Int)) (iv l.length) (prs l) FR s'.st hup lim'
        simp only at k2
        rcases k2 with k2 | ⟨k3, k2⟩
        · exact LawE.b1 (iv st2) (sbs s.b) (ints s.tr) (Evl.of (by rw [h4b2f, g4b2f]; simp [hi, idxK_prs hx, hU, hcp, hO, k2]))
        · exact (ih.f { s with st := st2 } L (H.h.at (hs0 _ k1)) hL k3 rfl).go fun R hR => Evl.of (by rw [h4b2f, g4b2f]; simp [hi, idxK_prs hx, hU, hcp, hO, k2, e0, hR])
  | true =>
    obtain ⟨rfl, rfl⟩ := hm0 e0r
    rw [e0r] at hU
    by_cases c1 : s'.tr.length = s.tr.length
    · have htr := H.tl c1
      rw [if_pos ⟨c1, by simp⟩, htr] at hU
      by_cases c2 : L2.length = L.length
      · rw [if_pos c2] at hO
        have hsame : L2 = L := by
          rcases keep with h1 | h1
          · exact h1
          · omega
        subst hsame
        cases o2 with
        | true => cases r2 <;> exact LawE.b1 (iv s'.st) (sbs s'.b) (ints s.tr) (Evl.of (by rw [h4b2f, g4b2f]; simp [hi, idxK_prs hx, hU, hcp, hO]))
        | false =>
          obtain ⟨hr, hB⟩ := nx lim' rfl
          subst hr
          have hB := hB rfl
          obtain ⟨st2, k1, k2⟩ := in_d hC hB H.ga H.gb (iv (i : Int)) (iv l.length) (prs l) FR s'.st (Int.le_refl _) lim'
          rw [hfr] at k2
          rw [htr] at k2
          simp only at k2
          rcases k2 with k2 | ⟨k3, k2⟩
          · exact LawE.b1 (iv st2) (sbs s'.b) (ints s.tr) (Evl.of (by rw [h4b2f, g4b2f]; simp [hi, idxK_prs hx, hU, hcp, hO, k2]))
          · have hne : L2 ≠ [] := by
              rcases keep with h1 | h1
              · rw [h1]; exact hL
              · intro h9; rw [h9] at h1; simp at h1
            exact (ih.f { s' with st := st2 } L2 (hB.at k1) hne k3 hfr).go fun R hR => by simp only [htr] at hR; exact Evl.of (by rw [h4b2f, g4b2f]; simp [hi, idxK_prs hx, hU, hcp, hO, k2, e0, hR])
      · rw [if_neg c2] at hO
        cases o2 with
        | true => cases r2 <;> exact LawE.b1 (iv s'.st) (sbs s'.b) (ints s.tr) (Evl.of (by rw [h4b2f, g4b2f]; simp [hi, idxK_prs hx, hU, hcp, hO]))
        | false =>
          obtain ⟨hr, hB⟩ := nx lim' rfl
          subst hr
          have hB := hB rfl
          obtain ⟨st2, k1, k2⟩ := in_d hC hB H.ga H.gb (iv (i : Int)) (iv l.length) (prs l) FR s'.st (Int.le_refl _) lim'
          rw [hfr] at k2
          rw [htr] at k2
          simp only at k2
          rcases k2 with k2 | ⟨k3, k2⟩
          · exact LawE.b1 (iv st2) (sbs s'.b) (ints s.tr) (Evl.of (by rw [h4b2f, g4b2f]; simp [hi, idxK_prs hx, hU, hcp, hO, k2]))
          · have hne : L2 ≠ [] := by
              rcases keep with h1 | h1
              · rw [h1]; exact hL
              · intro h9; rw [h9] at h1; simp at h1
            exact (ih.f { s' with st := st2 } L2 (hB.at k1) hne k3 hfr).go fun R hR => by simp only [htr] at hR; exact Evl.of (by rw [h4b2f, g4b2f]; simp [hi, idxK_prs hx, hU, hcp, hO, k2, e0, hR])
    · rw [if_neg (fun e => c1 e.1)] at hU
      by_cases c2 : L2.length = L.length
      · rw [if_pos c2] at hO
        have hsame : L2 = L := by
          rcases keep with h1 | h1
          · exact h1
          · omega
        subst hsame
        cases o2 with
        | true => cases r2 <;> exact LawE.b1 (iv s'.st) (sbs s'.b) (ints s'.tr) (Evl.of (by rw [h4b2f, g4b2f]; simp [hi, idxK_prs hx, hU, hcp, hO]))
        | false =>
          obtain ⟨hr, hB⟩ := nx lim' rfl
          subst hr
          have hB := hB rfl
          obtain ⟨st2, k1, k2⟩ := in_d hC hB H.ga H.gb (iv (i : Int)) (iv l.length) (prs l) FR s'.st (Int.le_refl _) lim'
          rw [hfr] at k2
          simp only at k2
          rcases k2 with k2 | ⟨k3, k2⟩
          · exact LawE.b1 (iv st2) (sbs s'.b) (ints s'.tr) (Evl.of (by rw [h4b2f, g4b2f]; simp [hi, idxK_prs hx, hU, hcp, hO, k2]))
          · have hne : L2 ≠ [] := by
              rcases keep with h1 | h1
              · rw [h1]; exact hL
              · intro h9; rw [h9] at h1; simp at h1
            exact (ih.f { s' with st := st2 } L2 (hB.at k1) hne k3 hfr).go fun R hR => Evl.of (by rw [h4b2f, g4b2f]; simp [hi, idxK_prs hx, hU, hcp, hO, k2, e0, hR])
      · rw [if_neg c2] at hO
        cases o2 with
        | true => cases r2 <;> exact LawE.b1 (iv s'.st) (sbs s'.b) (ints s'.tr) (Evl.of (by rw [h4b2f, g4b2f]; simp [hi, idxK_prs hx, hU, hcp, hO]))
        | false =>
          obtain ⟨hr, hB⟩ := nx lim' rfl
          subst hr
          have hB := hB rfl
          obtain ⟨st2, k1, k2⟩ := in_d hC hB H.ga H.gb (iv (i : Int)) (iv l.length) (prs l) FR s'.st (Int.le_refl _) lim'
          rw [hfr] at k2
          simp only at k2
          rcases k2 with k2 | ⟨k3, k2⟩
          · exact LawE.b1 (iv st2) (sbs s'.b) (ints s'.tr) (Evl.of (by rw [h4b2f, g4b2f]; simp [hi, idxK_prs hx, hU, hcp, hO, k2]))
          · have hne : L2 ≠ [] := by
              rcases keep with h1 | h1
              · rw [h1]; exact hL
              · intro h9; rw [h9] at h1; simp at h1
            exact (ih.f { s' with st := st2 } L2 (hB.at k1) hne k3 hfr).go fun R hR => Evl.of (by rw [h4b2f, g4b2f]; simp [hi, idxK_prs hx, hU, hcp, hO, k2, e0, hR])
end Go.Proofs.Ytnepapfndihalaa
