/- Joined texts. -/
import Derived.Test.YtnepapfndihalaaBg
import Derived.Test.YtnepapfndihalaaBe
import Derived.Test.YtnepapfndihalaaRows
import Derived.ChangeArms
set_option linter.unusedVariables false
set_option linter.unusedSimpArgs false
set_option linter.unusedSectionVars false
namespace Go.Proofs.Ytnepapfndihalaa
open Go.RowKit

abbrev p7b2d (a b c d e f g : PV) : Q := ⟨36, [a, b, c, d, e, f, g]⟩
theorem hp7b2d (a b c e f g) (l : Bd) {O} : body PG EE TT O (p7b2d a b c (sbs l) e f g) = g7b2d (T := Sm) a b c (sbs l) e f g O := h7b2d ..

theorem srt_ev (l : List Int) (hl : l.length ≤ 1000000000) : ev (q23a (ints l)) = some (0, [ints (sortZ l)]) := Evl.of (by
  rw [h23a]
  show extK (srtA [.rows (ivs l)]) = _
  unfold srtA
  simp only [intsOf_ivs]
  rw [if_pos hl]; rfl)
theorem cmp_ev (l : List Int) : ev (q24a (ints l)) = some (0, [ints (compZ l)]) := Evl.of (by
  rw [h24a]
  show extK (cmpA [.rows (ivs l)]) = _
  unfold cmpA
  simp only [intsOf_ivs]
  rfl)
theorem srt_nil : ev (q23 (.rows [])) = some (0, []) := Evl.of (by rw [h23]; rfl)
theorem cmp_nil : ev (q24 (.rows [])) = some (0, [.rows []]) := Evl.of (by rw [h24]; rfl)
theorem lenK_nilr {k : AV → Res} : lenK Try.prog .fail 55 (.pv (.rows [])) k = k (.pv (iv 0)) := lenK_ints []
theorem appK_sbs {k : PV → Res} (l : Bd) (n : Int) (u : Ty) (h : l.length ≤ 1000000000) : appK Try.prog .fail 30 (.pv (sbs l)) (.pv (.rows [[iv n, iv u.kind, sv u.name, iv u.n, tys u.kids]])) k = k (sbs (l ++ [(n, u)])) := by
  have e : [iv n, iv u.kind, sv u.name, iv u.n, tys u.kids] = sbC (n, u) := by rw [sbC, Ty.cells_eq]
  rw [e]
  refine appK_of (fun w => ?_) (ns_sbs _)
  rw [app_ok sl_sbs (es := l.map sbC) (es' := [sbC (n, u)]) rfl rfl (by simp) (by intro c hc; simp at hc; subst hc; simp [sbC, Ty.cells_len]) (by simp; omega) (by simp; omega)]
  rw [sbs, List.map_append]; exact Iff.rfl
theorem sbs_one (n : Int) (u : Ty) : PV.rows [[iv n, iv u.kind, sv u.name, iv u.n, tys u.kids]] = sbs [(n, u)] := by
  simp [sbs, sbC, Ty.cells_eq]
theorem bget_has {b : Bd} {n : Int} (h : bget b n ≠ none) : ∃ x, bget b n = some x := by
  cases hb : bget b n with
  | none => exact absurd hb h
  | some x => exact ⟨x, rfl⟩
/-- What the metas stand for, applied. -/
def mT (n : Int) : Ty := .mk 2 ⟨#[]⟩ n []
def outF (f : Nat) (b : Bd) : List Int → Int → Bd → Option (Option (Bd × Int))
  | [], st, out => some (some (out, st))
  | n :: l, st, out => match bget b n with
    | none => outF f b l st out
    | some _ => match applyF b f (mT n) st with
      | none => none
      | some none => some none
      | some (some (u, st')) => outF f b l st' (out ++ [(n, u)])
theorem out_len {f : Nat} {b : Bd} : ∀ (l : List Int) (st : Int) (out o : Bd) (st' : Int), outF f b l st out = some (some (o, st')) → out.length ≤ o.length
  | [], st, out, o, st', h => by rw [outF] at h; cases h; exact Nat.le_refl _
  | n :: l, st, out, o, st', h => by
    rw [outF] at h
    split at h
    · exact out_len l _ _ _ _ h
    · split at h
      · cases h
      · cases h
      · have := out_len l _ _ _ _ h; simp at this; omega
section
variable (f : Nat) (s : St) (h0 : s.fr = 0) (l : List Int) (hb : l.length ≤ 1000000000)
include h0 hb
theorem apply_mT {n : Int} {u : Ty} {st st' : Int} (h : applyF s.b f (mT n) st = some (some (u, st'))) :
    ev (q15b (iv 2) (sv ⟨#[]⟩) (iv n) (.rows []) (iv 0) (iv st) (sbs s.b) (ints s.tr)) = some (0, [iv 0, iv st', sbs s.b, ints s.tr, iv u.kind, sv u.name, iv u.n, tys u.kids, iv 0]) := by
  have := apply_ok s h; rw [h0] at this; exact this
theorem apply_mN {n : Int} {st : Int} (h : applyF s.b f (mT n) st = some none) :
    ev (q15b (iv 2) (sv ⟨#[]⟩) (iv n) (.rows []) (iv 0) (iv st) (sbs s.b) (ints s.tr)) = some (0, [iv 0, iv 1048577, sbs s.b, ints s.tr, iv 0, sv ⟨#[]⟩, iv 0, nilS, iv 3]) := by
  have := apply_no s h; rw [h0] at this; exact this
theorem out_d : ∀ (m : List Int) (i : Nat) (st : Int) (out : Bd) (r : Option (Bd × Int)), l.drop i = m → out.length ≤ i → outF f s.b m st out = some r →
    ev (p7b2d (iv (i : Int)) (iv l.length) (ints l) (sbs out) (iv st) (sbs s.b) (ints s.tr)) = some (match r with
      | none => (0, [iv 0, iv 1048577, sbs s.b, ints s.tr, nilS, iv 0, iv 3])
      | some (o, st') => (2, [iv 0, iv st', sbs s.b, ints s.tr, sbs o]))
  | [], i, st, out, r, hd, ho, h => by
    have hi := drop_nil hd
    rw [outF] at h
    cases h
    refine Evl.of ?_
    rw [hp7b2d, g7b2d]
    simp [hi]
  | n :: m, i, st, out, r, hd, ho, h => by
    obtain ⟨a1, a2, a3⟩ := drop_cons hd
    have hin : i < l.length := by omega
    have e0 : IntKind.i64.wrap ((i : Int) + 1) = (i : Int) + 1 := by rw [IntKind.wrap_i64]; omega
    have e1 : ((i + 1 : Nat) : Int) = (i : Int) + 1 := by omega
    rw [outF] at h
    cases hbn : bget s.b n with
    | none =>
      rw [hbn] at h
      have ih := out_d m (i + 1) st out r a3 (by omega) h
      rw [e1] at ih
      refine Evl.of ?_
      rw [hp7b2d, g7b2d]
      simp [hin, a2, idxK_ints a1, lookK_f s.b n hbn, pagg_4, e0, ih]
    | some x =>
      rw [hbn] at h
      simp only at h
      cases ha : applyF s.b f (mT n) st with
      | none => rw [ha] at h; cases h
      | some q =>
        rw [ha] at h
        cases q with
        | none =>
          cases h
          have h1 := apply_mN f s h0 l hb ha
          refine Evl.of ?_
          rw [hp7b2d, g7b2d]
          simp [hin, a2, idxK_ints a1, lookK_t s.b n hbn, pagg_4, h1, nilS] at h1 ⊢
        | some q =>
          obtain ⟨u, st1⟩ := q
          simp only at h
          have h1 := apply_mT f s h0 l hb ha
          have ih := out_d m (i + 1) st1 (out ++ [(n, u)]) r a3 (by simp; omega) h
          rw [e1] at ih
          have h2 := fun k => appK_sbs (k := k) out n u (by omega)
          refine Evl.of ?_
          rw [hp7b2d, g7b2d]
          simp [hin, a2, idxK_ints a1, lookK_t s.b n hbn, pagg_4, h1, h2, e0, ih]
theorem out_b : ∀ (m : List Int) (i : Nat) (st : Int) (r : Option (Bd × Int)), l.drop i = m → outF f s.b m st [] = some r →
    ev (q7b2b (iv (i : Int)) (iv l.length) (ints l) (iv st) (sbs s.b) (ints s.tr)) = some (match r with
      | none => (0, [iv 0, iv 1048577, sbs s.b, ints s.tr, nilS, iv 0, iv 3])
      | some (o, st') => if o = [] then (1, [iv 0, iv st', sbs s.b, ints s.tr, nilS]) else (2, [iv 0, iv st', sbs s.b, ints s.tr, sbs o]))
  | [], i, st, r, hd, h => by
    have hi := drop_nil hd
    rw [outF] at h
    cases h
    refine Evl.of ?_
    rw [h7b2b, g7b2b]
    simp [hi, nilS]
  | n :: m, i, st, r, hd, h => by
    obtain ⟨a1, a2, a3⟩ := drop_cons hd
    have hin : i < l.length := by omega
    have e0 : IntKind.i64.wrap ((i : Int) + 1) = (i : Int) + 1 := by rw [IntKind.wrap_i64]; omega
    have e1 : ((i + 1 : Nat) : Int) = (i : Int) + 1 := by omega
    rw [outF] at h
    cases hbn : bget s.b n with
    | none =>
      rw [hbn] at h
      have ih := out_b m (i + 1) st r a3 h
      rw [e1] at ih
      refine Evl.of ?_
      rw [h7b2b, g7b2b]
      simp [hin, a2, idxK_ints a1, lookK_f s.b n hbn, pagg_4, e0, ih]
    | some x =>
      rw [hbn] at h
      simp only at h
      cases ha : applyF s.b f (mT n) st with
      | none => rw [ha] at h; cases h
      | some q =>
        rw [ha] at h
        cases q with
        | none =>
          cases h
          have h1 := apply_mN f s h0 l hb ha
          refine Evl.of ?_
          rw [h7b2b, g7b2b]
          simp [hin, a2, idxK_ints a1, lookK_t s.b n hbn, pagg_4, h1, nilS] at h1 ⊢
        | some q =>
          obtain ⟨u, st1⟩ := q
          simp only [List.nil_append] at h
          have h1 := apply_mT f s h0 l hb ha
          have ih := out_d f s h0 l hb m (i + 1) st1 [(n, u)] r a3 (by simp) h
          rw [e1] at ih
          refine Evl.of ?_
          rw [h7b2b, g7b2b]
          have hne : ∀ o st', r = some (o, st') → ¬ o = [] := fun o st' e => by
            subst e
            have := out_len _ _ _ _ _ h
            intro e
            rw [e] at this
            simp at this
          have h3 := sbs_one n u
          cases r with
          | none => simp [hin, a2, idxK_ints a1, lookK_t s.b n hbn, pagg_4, h1, e0, h3, ih]
          | some o =>
            have hne := hne o.1 o.2 rfl
            simp [hin, a2, idxK_ints a1, lookK_t s.b n hbn, pagg_4, h1, e0, h3, ih, hne]
end
/-- Without a trail, nothing is bound. -/
theorem out_a (l : List Int) (hb : l.length ≤ 1000000000) (st : Int) : ∀ (m : List Int) (i : Nat), l.drop i = m →
    ev (q7b2a (iv (i : Int)) (iv l.length) (ints l) (iv st) (sbs [])) = some (1, [nilS, iv 0, iv st, sbs [], nilS])
  | [], i, hd => by
    have hi := drop_nil hd
    refine Evl.of ?_
    rw [h7b2a, g7b2a]
    simp [hi, nilS]
  | n :: m, i, hd => by
    obtain ⟨a1, a2, a3⟩ := drop_cons hd
    have hin : i < l.length := by omega
    have e0 : IntKind.i64.wrap ((i : Int) + 1) = (i : Int) + 1 := by rw [IntKind.wrap_i64]; omega
    have e1 : ((i + 1 : Nat) : Int) = (i : Int) + 1 := by omega
    have ih := out_a l hb st m (i + 1) a3
    rw [e1] at ih
    refine Evl.of ?_
    rw [h7b2a, g7b2a]
    have hl := fun k => lookK_f (k := k) [] n rfl
    simp [hin, a2, idxK_ints a1, hl, pagg_4, e0, ih]
/-! As many are bound as the trail is long. -/
def Same (s : St) : Prop := s.b.length = s.tr.length
theorem meta_same {f : Nat} {a b : Ty} {s s' : St} {r : Bool} (hl : Same s) (h : metaF f a b s = some (r, s')) : Same s' := by
  rcases meta_out h with ⟨_, _, _, rfl⟩ | ⟨_, st, _, _, rfl⟩ | ⟨_, st, _, _, _, rfl⟩
  · exact hl
  · exact hl
  · unfold Same at hl ⊢; simp [St.bind, hl]
theorem kids_same {g : Ty → Ty → St → Option (Bool × St)} (hg : ∀ x y s s' r, Same s → g x y s = some (r, s') → Same s') : ∀ (l m : List Ty) (s s' : St) (r : Bool), Same s → kidsF g l m s = some (r, s') → Same s'
  | [], _, s, s', r, hl, h => by simp [kidsF] at h; rw [← h.2]; exact hl
  | _ :: _, [], s, s', r, hl, h => by simp [kidsF] at h; rw [← h.2]; exact hl
  | x :: l, y :: m, s, s', r, hl, h => by
    rw [kidsF] at h
    cases hx : g x y s with
    | none => rw [hx] at h; cases h
    | some q =>
      obtain ⟨r0, s0⟩ := q
      rw [hx] at h
      cases r0 with
      | true => exact kids_same hg l m s0 s' r (hg _ _ _ _ _ hl hx) h
      | false => cases h; exact hg _ _ _ _ _ hl hx
theorem unif_same : ∀ (f : Nat) (x y : Ty) (s s' : St) (r : Bool), Same s → unifF f x y s = some (r, s') → Same s'
  | 0, x, y, s, s', r, hl, h => by cases h
  | f + 1, x, y, s, s', r, hl, h => by
    have hs : Same s.step := hl
    rw [unifF] at h
    split at h
    · split at h
      · split at h
        · exact meta_same hs h
        · split at h
          · exact meta_same hs h
          · split at h
            · split at h
              · split at h
                · exact kids_same (fun x y s s' r hl h => unif_same f x y s s' r hl h) _ _ _ _ _ hs h
                · cases h
              · cases h; exact hs
            · cases h; exact hs
      · cases h; exact hs
    · cases h
theorem slv_inv (f : Nat) : ∀ (m : List Pr) (i : Nat) (s : St) (ms : List Int) (s' : St) (ms' : List Int), Same s → s.fr = 0 → slvF f i m s ms = some (.inr (s', ms')) → Same s' ∧ s'.fr = 0
  | [], i, s, ms, s', ms', h1, h2, h => by rw [slvF] at h; cases h; exact ⟨h1, h2⟩
  | p :: m, i, s, ms, s', ms', h1, h2, h => by
    rw [slvF] at h
    cases hx : unifF f p.a p.b s with
    | none => rw [hx] at h; cases h
    | some q =>
      obtain ⟨r, s0⟩ := q
      rw [hx] at h
      simp only at h
      split at h
      · exact slv_inv f m _ _ _ _ _ (unif_same f _ _ _ _ _ h1 hx) ((unif_ext f _ _ _ _ _ hx).fr.trans h2) h
      · cases h
theorem slv_ms (f : Nat) : ∀ (m : List Pr) (i : Nat) (s : St) (ms : List Int) (s' : St) (ms' : List Int), (∀ p ∈ m, GoodP p) → slvF f i m s ms = some (.inr (s', ms')) → ms'.length ≤ ms.length + 2000 * m.length
  | [], i, s, ms, s', ms', hg, h => by rw [slvF] at h; cases h; simp
  | p :: m, i, s, ms, s', ms', hg, h => by
    rw [slvF] at h
    cases hx : unifF f p.a p.b s with
    | none => rw [hx] at h; cases h
    | some q =>
      obtain ⟨r, s0⟩ := q
      rw [hx] at h
      simp only at h
      split at h
      · have := slv_ms f m _ _ _ _ _ (fun p hp => hg p (List.mem_cons_of_mem _ hp)) h
        obtain ⟨_, _, g3, g4⟩ := hg p List.mem_cons_self
        simp only [List.length_append, List.length_cons] at this ⊢
        omega
      · cases h
theorem comp_len (l : List Int) : (compZ l).length ≤ l.length := by
  unfold compZ Lib.compact Lib.compactUpTo
  rw [List.length_map]
  exact Nat.le_trans (List.length_filter_le _ _) (by simp)
theorem comp_nil : compZ [] = [] := List.length_eq_zero_iff.1 (Nat.le_zero.1 (comp_len []))
theorem sort_len (l : List Int) : (sortZ l).length = l.length := List.length_mergeSort _
/-- Solve. -/
inductive Ans where
  | ok (l : Bd)
  | bad (at_ : Nat) (c : Int)
def s00 : St := ⟨0, 0, [], []⟩
def solveF (f : Nat) (l : List Pr) : Option Ans := match slvF f 0 l s00 [] with
  | none => none
  | some (.inl (i, c)) => some (.bad i c)
  | some (.inr (s, ms)) => match outF f s.b (compZ (sortZ ms)) s.st [] with
    | none => none
    | some none => some (.bad 0 3)
    | some (some (out, _)) => some (.ok out)
def ansR : Ans → Rs
  | .ok l => if l = [] then (0, [nilS, iv 0, iv 0]) else (1, [sbs l, iv 0, iv 0])
  | .bad i c => (0, [nilS, iv (i : Int), iv c])
theorem new_ev : ev q9 = some (0, [nilS, iv 0, iv 0, .rows []]) := Evl.of (by rw [h9, g9]; simp [nilS])
theorem outF_nil (f : Nat) : ∀ (l : List Int) (st : Int) (out : Bd), outF f [] l st out = some (some (out, st))
  | [], _, _ => rfl
  | n :: l, st, out => by rw [outF, show bget [] n = none from rfl]; exact outF_nil f l st out
theorem solve_ev {f : Nat} {l : List Pr} (hb : l.length ≤ 1000) (hg : ∀ p ∈ l, GoodP p) {a : Ans} (h : solveF f l = some a) : ev (q7 (prs l)) = some (ansR a) := Evl.of (by
  unfold solveF at h
  cases hs : slvF f 0 l s00 [] with
  | none => rw [hs] at h; cases h
  | some q =>
    rw [hs] at h
    obtain ⟨R, hR, hO⟩ := slv_ev f l hb hg l 0 s00 [] q rfl rfl (by simp [s00]) (by simp) hs
    have hR : ev (q7b0a (iv 0) (iv l.length) (prs l) (iv 0) (.rows [])) = some R := hR
    have hn := new_ev
    rw [h7, g7]
    cases q with
    | inl q =>
      obtain ⟨i, cc⟩ := q
      cases h
      obtain ⟨st, m, t, rfl | rfl⟩ := hO
      · simp [hn, lenK_prs, hR, nilS, ansR] at hn hR ⊢
      · simp [hn, lenK_prs, hR, nilS, ansR] at hn hR ⊢
    | inr q =>
      obtain ⟨s, ms⟩ := q
      obtain ⟨hsame, h0⟩ := slv_inv f l 0 s00 [] s ms rfl rfl hs
      have hlen := slv_ms f l 0 s00 [] s ms hg hs
      simp only at h
      have hO : R = out7 s ms := hO
      subst hO
      have hln : (compZ (sortZ ms)).length ≤ 1000000000 := by
        have h1 := comp_len (sortZ ms)
        rw [sort_len] at h1
        simp at hlen
        omega
      have hsrt := srt_ev ms (by simp at hlen; omega)
      have hcmp := cmp_ev (sortZ ms)
      generalize hL : compZ (sortZ ms) = L at *
      have hsn := srt_nil
      have hcn := cmp_nil
      unfold out7 at hR
      by_cases c1 : s.tr = []
      · have hb0 : s.b = [] := by
          unfold Same at hsame
          rw [c1] at hsame
          exact List.length_eq_zero_iff.1 hsame
        rw [hb0, outF_nil] at h
        cases h
        rw [if_pos c1, hb0] at hR
        have hoa := out_a L hln s.st L 0 rfl
        simp only [Int.ofNat_zero, Int.natCast_zero] at hoa
        by_cases c2 : ms = []
        · subst c2
          have hL : L = [] := by rw [← hL]; simp [sortZ, comp_nil]
          subst hL
          have hoa : ev (q7b2a (iv 0) (iv 0) (.rows []) (iv s.st) (sbs [])) = some (1, [nilS, iv 0, iv s.st, sbs [], nilS]) := hoa
          rw [if_pos rfl] at hR
          simp [ansR, nilS] at hn hR hoa ⊢
          simp [hn, lenK_prs, hR, hsn, hcn, lenK_nilr, hoa]
        · rw [if_neg c2] at hR
          simp [ansR, nilS] at hn hR hoa ⊢
          simp [hn, lenK_prs, hR, hsrt, hcmp, lenK_ints, hoa]
      · rw [if_neg c1] at hR
        cases ho : outF f s.b L s.st [] with
        | none => rw [ho] at h; cases h
        | some r =>
          rw [ho] at h
          have hob := out_b f s h0 L hln L 0 s.st r rfl ho
          simp only [Int.ofNat_zero, Int.natCast_zero] at hob
          by_cases c2 : ms = []
          · subst c2
            have hL : L = [] := by rw [← hL]; simp [sortZ, comp_nil]
            subst hL
            rw [outF] at ho
            cases ho
            cases h
            have hob : ev (q7b2b (iv 0) (iv 0) (.rows []) (iv s.st) (sbs s.b) (ints s.tr)) = some (1, [iv 0, iv s.st, sbs s.b, ints s.tr, nilS]) := hob
            rw [if_pos rfl] at hR
            simp [ansR, nilS] at hn hR hob ⊢
            simp [hn, lenK_prs, hR, hsn, hcn, lenK_nilr, hob]
          · rw [if_neg c2] at hR
            cases r with
            | none =>
              cases h
              simp [ansR, nilS] at hn hR hob ⊢
              simp [hn, lenK_prs, hR, hsrt, hcmp, lenK_ints, hob]
            | some r =>
              obtain ⟨o, st'⟩ := r
              cases h
              by_cases c3 : o = []
              · subst c3
                simp [ansR, nilS] at hn hR hob ⊢
                simp [hn, lenK_prs, hR, hsrt, hcmp, lenK_ints, hob]
              · simp [ansR, nilS, c3] at hn hR hob ⊢
                simp [hn, lenK_prs, hR, hsrt, hcmp, lenK_ints, hob])

/-- A type whose rows can be counted. -/
inductive Fit : Ty → Prop
  | mk {k : Int} {s : ByteArray} {n : Int} {ks : List Ty} : ks.length ≤ 9223372036854775807 → (∀ t ∈ ks, Fit t) → Fit (.mk k s n ks)
theorem Fit.len : ∀ {t : Ty}, Fit t → t.kids.length ≤ 9223372036854775807
  | _, .mk h _ => h
theorem Fit.kid : ∀ {t : Ty}, Fit t → ∀ x ∈ t.kids, Fit x
  | _, .mk _ h => h
theorem Few.fit {t : Ty} (h : Few t) : Fit t := by
  induction h with
  | mk h _ ih => exact .mk (by omega) ih
theorem wrap1 {i n : Nat} (h : i < n) (hn : n ≤ 9223372036854775807) : IntKind.i64.wrap ((i : Int) + 1) = (i : Int) + 1 := by rw [IntKind.wrap_i64]; omega
/-! Metas have no kids and no names. -/
mutual
def plainF : Ty → Bool
  | .mk k s n ks => if k = 2 ∧ (ks ≠ [] ∨ s ≠ ⟨#[]⟩) then false else plainL ks
def plainL : List Ty → Bool
  | [] => true
  | t :: l => plainF t && plainL l
end
def PlainE (t : Ty) : Prop := ev (q20 (iv t.kind) (sv t.name) (iv t.n) (tys t.kids)) = some (0, [bv (plainF t)])
theorem plain_l (l : List Ty) (hb : l.length ≤ 9223372036854775807) : ∀ (m : List Ty), (∀ t ∈ m, PlainE t) → ∀ (i : Nat), l.drop i = m →
    ev (q20b0a (iv (i : Int)) (iv l.length) (tys l)) = some (if plainL m then (1, []) else (0, [bv false]))
  | [], hB, i, hd => by
    have hi := drop_nil hd
    refine Evl.of ?_
    rw [h20b0a, g20b0a, plainL]
    simp [hi]
  | t :: m, hB, i, hd => by
    obtain ⟨a1, a2, a3⟩ := drop_cons hd
    have hin : i < l.length := by omega
    have e0 := wrap1 hin hb
    have e1 : ((i + 1 : Nat) : Int) = (i : Int) + 1 := by omega
    have h1 := hB t List.mem_cons_self
    unfold PlainE at h1
    have ih := plain_l l hb m (fun t ht => hB t (List.mem_cons_of_mem _ ht)) (i + 1) a3
    rw [e1] at ih
    refine Evl.of ?_
    rw [h20b0a, g20b0a, plainL]
    cases hp : plainF t <;> rw [hp] at h1 <;> simp [hin, idxK_tys a1, h1, e0, ih]
theorem plain_ev {t : Ty} (h : Fit t) : PlainE t := by
  induction h with
  | @mk k s n ks hl hk ih =>
    have h1 := plain_l ks hl ks ih 0 rfl
    simp only [Int.ofNat_zero, Int.natCast_zero] at h1
    unfold PlainE
    rw [plainF]
    simp only [Ty.kind_mk, Ty.name_mk, Ty.n_mk, Ty.kids_mk]
    refine Evl.of ?_
    rw [h20, g20]
    by_cases h2 : k = 2
    · cases ks with
      | cons x l =>
        simp [h2, lenK_tys]
      | nil =>
        by_cases hs : s = ⟨#[]⟩
        · simp [plainL] at h1
          simp [h2, hs, lenK_tys, h1, plainL]
        · simp [h2, hs, lenK_tys]
    · cases hp : plainL ks <;> rw [hp] at h1 <;> simp at h1 <;> simp [h2, lenK_tys, h1]
/-! How many types a type has. -/
mutual
def cntF : Ty → Int → Int
  | .mk k s n ks, most => if k = 1 ∧ (ks ≠ [] ∨ n ≠ 0) then most else cntL ks most 1
def cntL : List Ty → Int → Int → Int
  | [], most, n => n
  | t :: l, most, n => if n < most then cntL l most (n + cntF t (most - n)) else n
end
mutual
theorem cnt_b : ∀ (t : Ty) (most : Int), 1 ≤ most → 1 ≤ cntF t most ∧ cntF t most ≤ most
  | .mk k s n ks, most, h => by
    rw [cntF]
    split
    · omega
    · exact cntl_b ks most 1 h (by omega) (by omega)
theorem cntl_b : ∀ (l : List Ty) (most n : Int), 1 ≤ most → 1 ≤ n → n ≤ most → 1 ≤ cntL l most n ∧ cntL l most n ≤ most
  | [], most, n, h, h1, h2 => by rw [cntL]; exact ⟨h1, h2⟩
  | t :: l, most, n, h, h1, h2 => by
    rw [cntL]
    split
    · rename_i hlt
      have := cnt_b t (most - n) (by omega)
      exact cntl_b l most _ h (by omega) (by omega)
    · exact ⟨h1, h2⟩
end
def CntE (t : Ty) : Prop := ∀ most : Int, 1 ≤ most → most ≤ 1000 → ev (q33 (iv t.kind) (sv t.name) (iv t.n) (tys t.kids) (iv most)) = some (0, [iv (cntF t most)])
theorem cnt_l (l : List Ty) (hb : l.length ≤ 9223372036854775807) (A B C : PV) (most : Int) (h1m : 1 ≤ most) (hm : most ≤ 1000) : ∀ (m : List Ty), (∀ t ∈ m, CntE t) → ∀ (i : Nat) (n : Int), 1 ≤ n → n ≤ most → l.drop i = m →
    ev (q33b0a (iv (i : Int)) (iv n) (iv most) A B C (tys l)) = some (0, [A, B, C, tys l, iv (cntL m most n)])
  | [], hB, i, n, hn1, hn2, hd => by
    have hi := drop_nil hd
    refine Evl.of ?_
    rw [h33b0a, g33b0a, cntL]
    simp [lenK_tys, hi]
  | t :: m, hB, i, n, hn1, hn2, hd => by
    obtain ⟨a1, a2, a3⟩ := drop_cons hd
    have hin : i < l.length := by omega
    have e0 := wrap1 hin hb
    have e1 : ((i + 1 : Nat) : Int) = (i : Int) + 1 := by omega
    refine Evl.of ?_
    rw [h33b0a, g33b0a, cntL]
    by_cases hlt : n < most
    · have h1 := hB t List.mem_cons_self (most - n) (by omega) (by omega)
      have hb1 := cnt_b t (most - n) (by omega)
      have e2 : IntKind.i64.wrap (most - n) = most - n := by rw [IntKind.wrap_i64]; omega
      have e3 : IntKind.i64.wrap (n + cntF t (most - n)) = n + cntF t (most - n) := by rw [IntKind.wrap_i64]; omega
      have ih := cnt_l l hb A B C most h1m hm m (fun t ht => hB t (List.mem_cons_of_mem _ ht)) (i + 1) (n + cntF t (most - n)) (by omega) (by omega) a3
      rw [e1] at ih
      simp [lenK_tys, hin, hlt, idxK_tys a1, e2, h1, e3, e0, ih]
    · simp [lenK_tys, hin, hlt]
theorem cnt_ev {t : Ty} (h : Fit t) : CntE t := by
  induction h with
  | @mk k s n ks hl hk ih =>
    intro most h1m hm
    have h1 := cnt_l ks hl (iv k) (sv s) (iv n) most h1m hm ks ih 0 1 (by omega) h1m rfl
    simp only [Int.ofNat_zero, Int.natCast_zero] at h1
    rw [cntF]
    simp only [Ty.kind_mk, Ty.name_mk, Ty.n_mk, Ty.kids_mk]
    refine Evl.of ?_
    rw [h33, g33]
    by_cases hk1 : k = 1
    · subst hk1
      by_cases h0 : ks = []
      · subst h0
        by_cases hn : n = 0
        · subst hn
          simp [lenK_tys] at h1 ⊢
          simp [h1]
        · simp [lenK_tys, hn]
      · have hlen : 0 < ks.length := List.length_pos_iff.2 h0
        simp [lenK_tys, h0, hlen]
    · simp [hk1, h1]
def smallT (t : Ty) : Bool := decide (cntF t 41 ≤ 40)
theorem smallT_ev {t : Ty} (h : Fit t) : ev (q21 (iv t.kind) (sv t.name) (iv t.n) (tys t.kids) (iv 40)) = some (0, [bv (smallT t)]) := Evl.of (by
  have h1 := cnt_ev h 41 (by omega) (by omega)
  have e : IntKind.i64.wrap 41 = 41 := by rw [IntKind.wrap_i64]; rfl
  rw [h21, g21]
  unfold smallT
  by_cases hc : cntF t 41 ≤ 40
  · simp [e, h1, hc]
  · simp [e, h1, hc])
/-! Pairs that are asked. -/
def smallP (p : Pr) : Bool := plainF p.a && plainF p.b && smallT p.a && smallT p.b
def FitP (p : Pr) : Prop := Fit p.a ∧ Fit p.b
def smallF (l : List Pr) : Bool := l.all smallP && decide (l.length ≤ 12)
theorem small_l (l : List Pr) (hb : l.length ≤ 9223372036854775807) (X : PV) : ∀ (m : List Pr), (∀ p ∈ m, FitP p) → ∀ (i : Nat), l.drop i = m →
    ev (q6b0a (iv (i : Int)) (iv l.length) (prs l) X) = some (if m.all smallP then (1, [X]) else (0, [bv false]))
  | [], hB, i, hd => by
    have hi := drop_nil hd
    refine Evl.of ?_
    rw [h6b0a, g6b0a]
    simp [hi]
  | p :: m, hB, i, hd => by
    obtain ⟨a1, a2, a3⟩ := drop_cons hd
    have hin : i < l.length := by omega
    have e0 := wrap1 hin hb
    have e1 : ((i + 1 : Nat) : Int) = (i : Int) + 1 := by omega
    obtain ⟨fa, fb⟩ := hB p List.mem_cons_self
    have p1 : ev _ = _ := plain_ev fa
    have p2 : ev _ = _ := plain_ev fb
    have p3 := smallT_ev fa
    have p4 := smallT_ev fb
    have ih := small_l l hb X m (fun t ht => hB t (List.mem_cons_of_mem _ ht)) (i + 1) a3
    rw [e1] at ih
    refine Evl.of ?_
    rw [h6b0a, g6b0a, List.all_cons, smallP]
    cases q1 : plainF p.a <;> rw [q1] at p1
    · simp [hin, idxK_prs a1, p1]
    cases q2 : plainF p.b <;> rw [q2] at p2
    · simp [hin, idxK_prs a1, p1, p2]
    cases q3 : smallT p.a <;> rw [q3] at p3
    · simp [hin, idxK_prs a1, p1, p2, p3]
    cases q4 : smallT p.b <;> rw [q4] at p4
    · simp [hin, idxK_prs a1, p1, p2, p3, p4]
    · simp [hin, idxK_prs a1, p1, p2, p3, p4, e0, ih]
theorem small_ev (l : List Pr) (hb : l.length ≤ 9223372036854775807) (hf : ∀ p ∈ l, FitP p) : ev (q6 (prs l)) = some (0, [bv (smallF l)]) := Evl.of (by
  have h1 := small_l l hb (prs l) l hf 0 rfl
  simp only [Int.ofNat_zero, Int.natCast_zero] at h1
  rw [h6, g6]
  unfold smallF
  cases hp : l.all smallP <;> rw [hp] at h1
  · simp [lenK_prs] at h1 ⊢
    simp [h1]
  · by_cases hc : l.length ≤ 12
    · have hc' : (l.length : Int) ≤ 12 := by omega
      simp [lenK_prs] at h1 ⊢
      simp [h1, hc, hc']
    · have hc' : ¬ (l.length : Int) ≤ 12 := by omega
      simp [lenK_prs] at h1 ⊢
      simp [h1, hc, hc'])
/-! The same type. -/
def SameE (t : Ty) : Prop := ev (q8 (iv t.kind) (sv t.name) (iv t.n) (tys t.kids) (iv t.kind) (sv t.name) (iv t.n) (tys t.kids)) = some (0, [bv true])
theorem same_l (l : List Ty) (hb : l.length ≤ 9223372036854775807) : ∀ (m : List Ty), (∀ t ∈ m, SameE t) → ∀ (i : Nat), l.drop i = m →
    ev (q25b0a (iv (i : Int)) (tys l) (tys l)) = some (1, [])
  | [], hB, i, hd => by
    have hi := drop_nil hd
    refine Evl.of ?_
    rw [h25b0a, g25b0a]
    simp [lenK_tys, hi]
  | t :: m, hB, i, hd => by
    obtain ⟨a1, a2, a3⟩ := drop_cons hd
    have hin : i < l.length := by omega
    have e0 := wrap1 hin hb
    have e1 : ((i + 1 : Nat) : Int) = (i : Int) + 1 := by omega
    have h1 : ev _ = _ := hB t List.mem_cons_self
    have ih := same_l l hb m (fun t ht => hB t (List.mem_cons_of_mem _ ht)) (i + 1) a3
    rw [e1] at ih
    refine Evl.of ?_
    rw [h25b0a, g25b0a]
    simp [lenK_tys, hin, idxK_tys a1, h1, e0, ih]
theorem same_ev {t : Ty} (h : Fit t) : SameE t := by
  induction h with
  | @mk k s n ks hl hk ih =>
    have h1 := same_l ks hl ks ih 0 rfl
    simp only [Int.ofNat_zero, Int.natCast_zero] at h1
    have h2 : ev (q25 (tys ks) (tys ks)) = some (0, [bv true]) := Evl.of (by
      rw [h25, g25]
      simp [lenK_tys, h1])
    unfold SameE
    simp only [Ty.kind_mk, Ty.name_mk, Ty.n_mk, Ty.kids_mk]
    refine Evl.of ?_
    rw [h8, g8]
    simp [h2]
/-! The law's own loops. -/
def swapP (p : Pr) : Pr := ⟨p.b, p.a⟩
theorem appK_prs {k : PV → Res} (l : List Pr) (p : Pr) (h : l.length ≤ 1000000000) : appK Try.prog .fail 22 (.pv (prs l)) (.pv (.rows [[iv p.b.kind, sv p.b.name, iv p.b.n, tys p.b.kids, iv p.a.kind, sv p.a.name, iv p.a.n, tys p.a.kids]])) k = k (prs (l ++ [swapP p])) := by
  have e : [iv p.b.kind, sv p.b.name, iv p.b.n, tys p.b.kids, iv p.a.kind, sv p.a.name, iv p.a.n, tys p.a.kids] = (swapP p).cells := by rw [swapP, Pr.cells, Ty.cells_eq, Ty.cells_eq]; rfl
  have hl : (swapP p).cells.length = 8 := by rw [← e]; rfl
  rw [e]
  refine appK_of (fun w => ?_) (ns_prs _)
  rw [app_ok sl_prs (es := l.map Pr.cells) (es' := [(swapP p).cells]) rfl rfl (by simp) (by intro c hc; simp at hc; subst hc; exact hl) (by simp; omega) (by simp; omega)]
  rw [prs, List.map_append]; exact Iff.rfl
theorem prs_one (p : Pr) : PV.rows [[iv p.b.kind, sv p.b.name, iv p.b.n, tys p.b.kids, iv p.a.kind, sv p.a.name, iv p.a.n, tys p.a.kids]] = prs [swapP p] := by
  simp [prs, swapP, Pr.cells, Ty.cells_eq]

/-! How many types a type has. -/
mutual
def szF : Ty → Nat
  | .mk _ _ _ ks => 1 + szL ks
def szL : List Ty → Nat
  | [] => 0
  | t :: l => szF t + szL l
end
theorem szL_len : ∀ l : List Ty, l.length ≤ szL l
  | [] => Nat.le_refl _
  | .mk k s n ks :: l => by
    have := szL_len l
    rw [szL, szF, List.length_cons]
    omega
theorem szL_mem : ∀ {l : List Ty} {t : Ty}, t ∈ l → szF t ≤ szL l
  | [], t, h => absurd h (by simp)
  | x :: l, t, h => by
    rw [szL]
    rcases List.mem_cons.1 h with rfl | h
    · omega
    · have := szL_mem h; omega
mutual
theorem cnt_sz : ∀ (t : Ty) (most : Int), 1 ≤ most → cntF t most < most → (szF t : Int) ≤ cntF t most
  | .mk k s n ks, most, h, hl => by
    rw [cntF] at hl ⊢
    split at hl
    · omega
    · rename_i hc
      rw [if_neg hc]
      have := cntl_sz ks most 1 h (by omega) (by have := (cntl_b ks most 1 h (by omega) (by omega)).1; omega) hl
      rw [szF]
      omega
theorem cntl_sz : ∀ (l : List Ty) (most n : Int), 1 ≤ most → 1 ≤ n → n ≤ most → cntL l most n < most → n + (szL l : Int) ≤ cntL l most n
  | [], most, n, h, h1, h2, hl => by rw [cntL, szL]; omega
  | t :: l, most, n, h, h1, h2, hl => by
    rw [cntL] at hl ⊢
    split at hl
    · rename_i hlt
      rw [if_pos hlt]
      have b1 := cnt_b t (most - n) (by omega)
      have b2 := cntl_b l most (n + cntF t (most - n)) h (by omega) (by omega)
      have b3 := cntl_sz l most (n + cntF t (most - n)) h (by omega) (by omega) hl
      have b4 := cnt_sz t (most - n) (by omega) (by omega)
      rw [szL]
      omega
    · omega
end
theorem small_sz {t : Ty} (h : smallT t = true) : szF t ≤ 40 := by
  have h1 : cntF t 41 ≤ 40 := by simpa [smallT] using h
  have := cnt_sz t 41 (by omega) (by omega)
  omega
mutual
theorem few_sz : ∀ (t : Ty), szF t ≤ 1000000 → Few t
  | .mk k s n ks, h => by
    rw [szF] at h
    have := szL_len ks
    exact .mk (by omega) (fewl_sz ks (by omega))
theorem fewl_sz : ∀ (l : List Ty), szL l ≤ 1000000 → ∀ t ∈ l, Few t
  | [], h, t, ht => absurd ht (by simp)
  | x :: l, h, t, ht => by
    rw [szL] at h
    rcases List.mem_cons.1 ht with he | ht
    · rw [he]; exact few_sz x (by omega)
    · exact fewl_sz l (by omega) t ht
end
theorem see_sz (k n : Int) (acc : List Int) : (seeF k n acc).length ≤ acc.length + 1 := by unfold seeF; split <;> simp
mutual
theorem walk_sz : ∀ (t : Ty) (acc : List Int), (walkF t acc).length ≤ acc.length + szF t
  | .mk k s n ks, acc => by
    rw [walkF, szF]
    have := walkl_sz ks (seeF k n acc)
    have := see_sz k n acc
    omega
theorem walkl_sz : ∀ (l : List Ty) (acc : List Int), (walkL l acc).length ≤ acc.length + szL l
  | [], acc => by rw [walkL]; omega
  | t :: l, acc => by
    rw [walkL, szL]
    have := walkl_sz l (walkF t acc)
    have := walk_sz t acc
    omega
end
theorem mets_sz (t : Ty) : (metsF t).length ≤ szF t := by
  have := walk_sz t []
  simpa [metsF] using this
theorem good_small {p : Pr} (h : smallP p = true) : GoodP p := by
  unfold smallP at h
  simp only [Bool.and_eq_true] at h
  obtain ⟨⟨⟨_, _⟩, h3⟩, h4⟩ := h
  have h3 := small_sz h3
  have h4 := small_sz h4
  have m1 := mets_sz p.a
  have m2 := mets_sz p.b
  exact ⟨few_sz _ (by omega), few_sz _ (by omega), by omega, by omega⟩
/-! What holds of all that is bound. -/
structure InvB (b : Bd) : Prop where
  few : ∀ x ∈ b, Few x.2
  dec : ∀ x ∈ b, x.2.kind = 2 → x.2.n < x.1
theorem bget_mem {b : Bd} {n : Int} {t : Ty} (h : bget b n = some t) : (n, t) ∈ b := by
  unfold bget at h
  obtain ⟨y, hy, rfl⟩ := Option.map_eq_some_iff.1 h
  have h1 := List.mem_of_find?_eq_some hy
  have h2 := List.find?_some hy
  have h3 : y.1 = n := by simpa [isN] using h2
  rw [← h3]; exact h1
def below (b : Bd) (n : Int) : Nat := (b.filter fun x => decide (x.1 ≤ n)).length
theorem below_le (b : Bd) (n : Int) : below b n ≤ b.length := List.length_filter_le _ _
theorem below_lt : ∀ {b : Bd} {n m : Int} {t : Ty}, (n, t) ∈ b → m < n → below b m < below b n
  | [], _, _, _, h, _ => absurd h (by simp)
  | x :: b, n, m, t, h, hlt => by
    have hmono : ∀ (c : Bd), below c m ≤ below c n := fun c => by
      induction c with
      | nil => exact Nat.le_refl _
      | cons y c ih =>
        unfold below at ih ⊢
        rw [List.filter_cons, List.filter_cons]
        by_cases h1 : y.1 ≤ m
        · have h2 : y.1 ≤ n := by omega
          simp [h1, h2]; exact ih
        · by_cases h2 : y.1 ≤ n
          · simp [h1, h2]; omega
          · simp [h1, h2]; exact ih
    rcases List.mem_cons.1 h with rfl | h
    · have := hmono b
      unfold below at this ⊢
      rw [List.filter_cons, List.filter_cons]
      have h1 : ¬ n ≤ m := by omega
      simp [h1]; omega
    · have ih := below_lt h hlt
      unfold below at ih ⊢
      rw [List.filter_cons, List.filter_cons]
      by_cases h1 : x.1 ≤ m
      · have h2 : x.1 ≤ n := by omega
        simp [h1, h2]; exact ih
      · by_cases h2 : x.1 ≤ n
        · simp [h1, h2]; omega
        · simp [h1, h2]; exact ih
theorem head_some {b : Bd} (hb : InvB b) : ∀ (f : Nat) (t : Ty), below b t.n + 1 ≤ f → Few t → ∃ u, headF f b t = some u ∧ Few u
  | 0, t, h, _ => by omega
  | f + 1, t, h, ht => by
    rw [headF]
    by_cases h2 : t.kind = 2
    · rw [if_pos h2]
      cases hg : bget b t.n with
      | none => exact ⟨t, rfl, ht⟩
      | some x =>
        simp only
        have hm := bget_mem hg
        by_cases hk : x.kind = 2
        · have hlt : x.n < t.n := hb.dec _ hm hk
          have := below_lt hm hlt
          exact head_some hb f x (by omega) (hb.few _ hm)
        · cases f with
          | zero =>
            have := below_lt (m := t.n - 1) hm (by omega)
            omega
          | succ f => exact ⟨x, by rw [headF, if_neg hk], hb.few _ hm⟩
    · rw [if_neg h2]; exact ⟨t, rfl, ht⟩
theorem head_some' {b : Bd} (hb : InvB b) {f : Nat} {t : Ty} (h : b.length + 1 ≤ f) (ht : Few t) : ∃ u, headF f b t = some u ∧ Few u := head_some hb f t (by have := below_le b t.n; omega) ht
theorem step_n {st : Int} (h0 : 0 ≤ st) (h : st ≤ 4000000000000) : stepI st = st + 1 := by unfold stepI; rw [IntKind.wrap_i64]; omega
/-- What a search may add to the steps. -/
def upS (st : Int) : Int := if st < 1048576 then 1048577 + 1000000 * (1048576 - st) else st + 1
def OccS (b : Bd) (f : Nat) (g : Ty → Int → Option (Bool × Int)) : Prop := ∀ (t : Ty) (st : Int), Few t → 0 ≤ st → st ≤ 3000000000000 → (1048576 - st).toNat + b.length + 2 ≤ f → ∃ r st', g t st = some (r, st') ∧ st < st' ∧ st' ≤ upS st
theorem occl_some {b : Bd} {f : Nat} {g : Ty → Int → Option (Bool × Int)} (hg : OccS b f g) (s1 : Int) (h1 : 0 ≤ s1) (h2 : s1 ≤ 1048576) (hf : (1048576 - s1).toNat + b.length + 2 ≤ f) : ∀ (l : List Ty) (st : Int), (∀ t ∈ l, Few t) → l.length ≤ 1000000 → s1 ≤ st → st + l.length ≤ 2000000000000 →
    ∃ r st', occF.occL g l st = some (r, st') ∧ st ≤ st' ∧ st' ≤ max st (1048577 + 1000000 * (1048576 - s1)) + l.length
  | [], st, hl, hn, hs, hu => ⟨false, st, rfl, Int.le_refl _, by simp; omega⟩
  | t :: l, st, hl, hn, hs, hu => by
    rw [List.length_cons] at hn hu
    obtain ⟨r, st', e, a1, a2⟩ := hg t st (hl t List.mem_cons_self) (by omega) (by omega) (by omega)
    rw [occF.occL, e]
    have hup : st' ≤ max (st + 1) (1048577 + 1000000 * (1048576 - s1)) := by
      unfold upS at a2
      split at a2 <;> omega
    cases r with
    | true =>
      refine ⟨true, st', rfl, by omega, ?_⟩
      rw [List.length_cons]
      omega
    | false =>
      by_cases hq : st' + l.length ≤ 2000000000000
      · obtain ⟨r', st'', e', c1, c2⟩ := occl_some hg s1 h1 h2 hf l st' (fun t ht => hl t (List.mem_cons_of_mem _ ht)) (by omega) (by omega) hq
        refine ⟨r', st'', e', by omega, ?_⟩
        rw [List.length_cons]
        omega
      · omega
theorem occ_some {b : Bd} (hb : InvB b) (n : Int) : ∀ (f : Nat), OccS b f (occF b n f)
  | 0 => fun t st _ _ _ h => by omega
  | f + 1 => fun t st ht h0 h1 hf => by
    obtain ⟨u, hu, fu⟩ := head_some' hb (f := f) (t := t) (by omega) ht
    rw [occF, hu]
    simp only
    have hs := step_n h0 (by omega)
    rw [hs]
    by_cases hm : st + 1 ≤ maxS
    · rw [if_pos hm]
      have hm' : st + 1 ≤ 1048576 := hm
      have hupS : upS st = 1048577 + 1000000 * (1048576 - st) := by unfold upS; rw [if_pos (by omega)]
      by_cases h2 : u.kind = 2
      · rw [if_pos h2]
        exact ⟨_, _, rfl, by omega, by rw [hupS]; omega⟩
      · rw [if_neg h2, if_pos fu.len]
        obtain ⟨r, st', e, c1, c2⟩ := occl_some (occ_some hb n f) (st + 1) (by omega) hm' (by omega) u.kids (st + 1) fu.kid fu.len (by omega) (by have := fu.len; omega)
        refine ⟨r, st', e, by omega, ?_⟩
        have := fu.len
        rw [hupS]
        omega
    · rw [if_neg hm]
      have hm' : ¬ st + 1 ≤ 1048576 := hm
      refine ⟨_, _, rfl, by omega, ?_⟩
      unfold upS
      split <;> omega

structure InvS (s : St) : Prop where
  b : InvB s.b
  same : Same s
  le : (s.b.length : Int) ≤ s.st
  cap : s.b.length ≤ 1048576
theorem upS_top {st : Int} (h0 : 0 ≤ st) (h : st ≤ 1048576) : upS st ≤ 1100000000000 := by unfold upS; split <;> omega
theorem meta_some {f : Nat} {a b : Ty} {s : St} (hi : InvS s) (hl : (s.b.length : Int) + 1 ≤ s.st) (hs : s.st ≤ 1048576) (ha : Few a) (hb : Few b) (hk : a.kind = 2) (hno : b.kind = 2 → b.n ≤ a.n)
    (hf : (1048576 - s.st).toNat + s.b.length + 2 ≤ f) : ∃ r s', metaF f a b s = some (r, s') ∧ InvS s' ∧ s.st ≤ s'.st ∧ s'.st ≤ 1100000000000 := by
  unfold metaF
  have h0 : 0 ≤ s.st := by omega
  by_cases hc : b.kind = 2 ∧ b.n = a.n
  · rw [if_pos hc]
    exact ⟨true, s, rfl, hi, Int.le_refl _, by omega⟩
  · rw [if_neg hc]
    obtain ⟨r, st', e, c1, c2⟩ := occ_some hi.b a.n f b s.st hb h0 (by omega) hf
    have htop := upS_top h0 hs
    rw [e]
    cases r with
    | true => exact ⟨false, _, rfl, ⟨hi.b, hi.same, by show (s.b.length : Int) ≤ st'; omega, hi.cap⟩, by show s.st ≤ st'; omega, by show st' ≤ _; omega⟩
    | false =>
      have hsm : s.b.length = s.tr.length := hi.same
      have htl : s.tr.length ≤ 1000000000 := by have := hi.cap; omega
      simp only
      rw [if_pos htl]
      refine ⟨true, _, rfl, ⟨⟨?_, ?_⟩, ?_, ?_, ?_⟩, ?_, ?_⟩
      · intro x hx
        rcases List.mem_append.1 hx with hx | hx
        · exact hi.b.few x hx
        · rw [List.mem_singleton.1 hx]; exact hb
      · intro x hx
        rcases List.mem_append.1 hx with hx | hx
        · exact hi.b.dec x hx
        · rw [List.mem_singleton.1 hx]
          intro hk2
          have := hno hk2
          have hne : ¬ b.n = a.n := fun e => hc ⟨hk2, e⟩
          show b.n < a.n
          omega
      · show (s.b ++ [(a.n, b)]).length = (s.tr ++ [a.n]).length
        simp [hsm]
      · show (((s.b ++ [(a.n, b)]).length : Nat) : Int) ≤ st'
        simp; omega
      · show (s.b ++ [(a.n, b)]).length ≤ 1048576
        simp; omega
      · show s.st ≤ st'; omega
      · show st' ≤ _; omega
def UniS (f : Nat) (g : Ty → Ty → St → Option (Bool × St)) : Prop := ∀ (x y : Ty) (s : St), Few x → Few y → InvS s → s.st ≤ 1100000000000 → (1048576 - s.st).toNat + 1048579 ≤ f →
  ∃ r s', g x y s = some (r, s') ∧ InvS s' ∧ s.st ≤ s'.st ∧ s'.st ≤ 1100000000001 ∧ (r = true → s'.st ≤ 1100000000000)
theorem kids_some {f : Nat} {g : Ty → Ty → St → Option (Bool × St)} (hg : UniS f g) : ∀ (l m : List Ty) (s : St), (∀ t ∈ l, Few t) → (∀ t ∈ m, Few t) → InvS s → s.st ≤ 1100000000000 → (1048576 - s.st).toNat + 1048579 ≤ f →
    ∃ r s', kidsF g l m s = some (r, s') ∧ InvS s' ∧ s.st ≤ s'.st ∧ s'.st ≤ 1100000000001 ∧ (r = true → s'.st ≤ 1100000000000)
  | [], _, s, _, _, hi, hs, _ => ⟨true, s, by simp [kidsF], hi, Int.le_refl _, by omega, fun _ => hs⟩
  | _ :: _, [], s, _, _, hi, hs, _ => ⟨true, s, by simp [kidsF], hi, Int.le_refl _, by omega, fun _ => hs⟩
  | x :: l, y :: m, s, hl, hm, hi, hs, hf => by
    obtain ⟨r, s', e, c1, c2, c3, c4⟩ := hg x y s (hl x List.mem_cons_self) (hm y List.mem_cons_self) hi hs hf
    rw [kidsF, e]
    cases r with
    | false => exact ⟨false, s', rfl, c1, c2, c3, c4⟩
    | true =>
      obtain ⟨r2, s2, e2, d1, d2, d3, d4⟩ := kids_some hg l m s' (fun t ht => hl t (List.mem_cons_of_mem _ ht)) (fun t ht => hm t (List.mem_cons_of_mem _ ht)) c1 (c4 rfl) (by omega)
      exact ⟨r2, s2, e2, d1, by omega, d3, d4⟩
theorem unif_some : ∀ (f : Nat), UniS f (unifF f)
  | 0 => fun x y s _ _ _ _ h => by omega
  | f + 1 => fun x y s hx hy hi hs hf => by
    have hcap := hi.cap
    have hle := hi.le
    obtain ⟨a, ha, fa⟩ := head_some' hi.b (f := f) (t := x) (by omega) hx
    obtain ⟨b, hb, fb⟩ := head_some' hi.b (f := f) (t := y) (by omega) hy
    have h0 : 0 ≤ s.st := by omega
    have hst := step_n h0 (by omega)
    rw [unifF, ha, hb]
    simp only
    have hi' : InvS s.step := ⟨hi.b, hi.same, by show (s.b.length : Int) ≤ stepI s.st; omega, hi.cap⟩
    have hst' : s.step.st = s.st + 1 := hst
    have hbl : s.step.b = s.b := rfl
    have hend : ∃ r s', (some (false, s.step) : Option (Bool × St)) = some (r, s') ∧ InvS s' ∧ s.st ≤ s'.st ∧ s'.st ≤ 1100000000001 ∧ (r = true → s'.st ≤ 1100000000000) :=
      ⟨false, s.step, rfl, hi', by omega, by omega, fun h => by cases h⟩
    rw [hst]
    by_cases hm : s.st + 1 ≤ maxS
    · rw [if_pos hm]
      have hm' : s.st + 1 ≤ 1048576 := hm
      by_cases hA : a.kind = 2 ∧ ¬ (b.kind = 2 ∧ b.n > a.n)
      · rw [if_pos hA]
        obtain ⟨r, s', e, c1, c2, c3⟩ := meta_some (f := f) (a := a) (b := b) hi' (by rw [hbl]; omega) (by omega) fa fb hA.1 (fun hk => by
          have := hA.2; by_cases hg : b.n > a.n
          · exact absurd ⟨hk, hg⟩ this
          · omega) (by rw [hbl]; omega)
        exact ⟨r, s', e, c1, by omega, by omega, fun _ => c3⟩
      · rw [if_neg hA]
        by_cases hb2 : b.kind = 2
        · rw [if_pos hb2]
          obtain ⟨r, s', e, c1, c2, c3⟩ := meta_some (f := f) (a := b) (b := a) hi' (by rw [hbl]; omega) (by omega) fb fa hb2 (fun hk => by
            by_cases hg : b.n > a.n
            · omega
            · exact absurd ⟨hk, fun e => hg e.2⟩ hA) (by rw [hbl]; omega)
          exact ⟨r, s', e, c1, by omega, by omega, fun _ => c3⟩
        · rw [if_neg hb2]
          by_cases hc : b.kind = a.kind ∧ b.name = a.name ∧ b.n = a.n
          · rw [if_pos hc]
            by_cases hlen : b.kids.length = a.kids.length
            · rw [if_pos hlen, if_pos fb.len]
              obtain ⟨r, s', e, c1, c2, c3, c4⟩ := kids_some (unif_some f) b.kids a.kids s.step fb.kid fa.kid hi' (by omega) (by omega)
              exact ⟨r, s', e, c1, by omega, c3, c4⟩
            · rw [if_neg hlen]; exact hend
          · rw [if_neg hc]; exact hend
    · rw [if_neg hm]; exact hend
theorem slv_some {f : Nat} (hf : 4000000 ≤ f) : ∀ (l : List Pr) (i : Nat) (s : St) (ms : List Int), (∀ p ∈ l, GoodP p) → InvS s → s.st ≤ 1048576 → ∃ r, slvF f i l s ms = some r ∧ (match r with
    | .inl (_, c) => c = 3 ∨ c = 140
    | .inr (s', _) => InvS s' ∧ s'.st ≤ 1048576)
  | [], i, s, ms, _, hi, hs => ⟨_, rfl, hi, hs⟩
  | p :: l, i, s, ms, hg, hi, hs => by
    obtain ⟨g1, g2, _, _⟩ := hg p List.mem_cons_self
    have h0 : 0 ≤ s.st := by have := hi.le; omega
    obtain ⟨r, s', e, c1, c2, c3, c4⟩ := unif_some f p.a p.b s g1 g2 hi (by omega) (by omega)
    rw [slvF, e]
    simp only
    by_cases hc : uniE r s' = 0
    · rw [if_pos hc]
      have hs' : s'.st ≤ 1048576 := by
        unfold uniE at hc
        split at hc
        · cases hc
        · rename_i h; have h : ¬ s'.st > 1048576 := h; omega
      exact slv_some hf l _ _ _ (fun p hp => hg p (List.mem_cons_of_mem _ hp)) c1 hs'
    · rw [if_neg hc]
      refine ⟨_, rfl, ?_⟩
      show uniE r s' = 3 ∨ uniE r s' = 140
      unfold uniE at hc ⊢
      split
      · exact .inl rfl
      · rename_i h
        rw [if_neg h] at hc
        cases r
        · exact .inr rfl
        · exact absurd rfl hc
/-! Applied. -/
def upP (pa : Int) : Int := if pa < 5000 then 5001 + 1000000 * (5000 - pa) else pa + 1
def AppS (b : Bd) (f : Nat) (g : Ty → Int → Int → Option (Ty × Int × Int)) : Prop := ∀ (t : Ty) (st pa : Int), Few t → 0 ≤ st → 0 ≤ pa → st ≤ pa + 2000000 → pa ≤ 20000000000 → (5000 - pa).toNat + b.length + 2 ≤ f →
  ∃ u st' pa', g t st pa = some (u, st', pa') ∧ Few u ∧ st ≤ st' ∧ pa < pa' ∧ pa' ≤ upP pa ∧ st' - pa' ≤ st - pa
theorem appl_some {b : Bd} {f : Nat} {g : Ty → Int → Int → Option (Ty × Int × Int)} (hg : AppS b f g) (p1 : Int) (h1 : 0 ≤ p1) (h2 : p1 ≤ 5000) (hf : (5000 - p1).toNat + b.length + 2 ≤ f) : ∀ (l : List Ty) (st pa : Int), (∀ t ∈ l, Few t) → l.length ≤ 1000000 → 0 ≤ st → p1 ≤ pa → st ≤ pa + 2000000 → pa + l.length ≤ 10000000000 →
    ∃ r st' pa', appF.appL g l st pa = some (r, st', pa') ∧ (∀ t ∈ r, Few t) ∧ r.length = l.length ∧ st ≤ st' ∧ pa ≤ pa' ∧ pa' ≤ max pa (5001 + 1000000 * (5000 - p1)) + l.length ∧ st' - pa' ≤ st - pa
  | [], st, pa, hl, hn, h0, hs, hq, hu => ⟨[], st, pa, rfl, fun t ht => absurd ht (by simp), rfl, Int.le_refl _, Int.le_refl _, by simp; omega, Int.le_refl _⟩
  | t :: l, st, pa, hl, hn, h0, hs, hq, hu => by
    rw [List.length_cons] at hn hu
    obtain ⟨u, st', pa', e, a1, a2, a3, a4, a5⟩ := hg t st pa (hl t List.mem_cons_self) h0 (by omega) (by omega) (by omega) (by omega)
    rw [appF.appL, e]
    have hup : pa' ≤ max (pa + 1) (5001 + 1000000 * (5000 - p1)) := by
      unfold upP at a4
      split at a4 <;> omega
    obtain ⟨r, st'', pa'', e', c1, c2, c3, c4, c5, c6⟩ := appl_some hg p1 h1 h2 hf l st' pa' (fun t ht => hl t (List.mem_cons_of_mem _ ht)) (by omega) (by omega) (by omega) (by omega) (by omega)
    refine ⟨u :: r, st'', pa'', by simp only [e'], ?_, by simp [c2], by omega, by omega, ?_, by omega⟩
    · intro x hx
      rcases List.mem_cons.1 hx with hx | hx
      · rw [hx]; exact a1
      · exact c1 x hx
    · rw [List.length_cons]; omega
theorem app_some {b : Bd} (hb : InvB b) : ∀ (f : Nat), AppS b f (appF b f)
  | 0 => fun t st pa _ _ _ _ _ h => by omega
  | f + 1 => fun t st pa ht h0 hp0 hst hpa hf => by
    obtain ⟨u, hu, fu⟩ := head_some' hb (f := f) (t := t) (by omega) ht
    have e1 : IntKind.i64.wrap (pa + 1) = pa + 1 := by rw [IntKind.wrap_i64]; omega
    have e2 := step_n h0 (by omega)
    rw [appF, hu]
    simp only
    rw [e1, e2]
    by_cases hp : pa + 1 > 5000
    · rw [if_pos hp]
      refine ⟨_, _, _, rfl, fu, Int.le_refl _, by omega, ?_, by omega⟩
      unfold upP; split <;> omega
    · rw [if_neg hp]
      have hupP : upP pa = 5001 + 1000000 * (5000 - pa) := by unfold upP; rw [if_pos (by omega)]
      by_cases hm : st + 1 ≤ maxS
      · rw [if_pos hm, if_pos fu.len]
        have := fu.len
        obtain ⟨r, st', pa', e, c1, c2, c3, c4, c5, c6⟩ := appl_some (app_some hb f) (pa + 1) (by omega) (by omega) (by omega) u.kids (st + 1) (pa + 1) fu.kid fu.len (by omega) (by omega) (by omega) (by omega)
        rw [e]
        refine ⟨_, _, _, rfl, .mk (by omega) c1, by omega, by omega, ?_, by omega⟩
        rw [hupP]; omega
      · rw [if_neg hm]
        refine ⟨_, _, _, rfl, fu, by omega, by omega, ?_, by omega⟩
        rw [hupP]; omega
theorem few_mT (n : Int) : Few (mT n) := .mk (by simp) (fun t ht => absurd ht (by simp))
theorem out_some {f : Nat} (hf : 4000000 ≤ f) {b : Bd} (hb : InvB b) (hc : b.length ≤ 1048576) : ∀ (l : List Int) (st : Int) (out : Bd), 0 ≤ st → st ≤ 1048576 → (∀ x ∈ out, Few x.2) → ∃ r, outF f b l st out = some r ∧ ∀ o st', r = some (o, st') → ∀ x ∈ o, Few x.2
  | [], st, out, h0, hs, ho => ⟨_, rfl, fun o st' h => by cases h; exact ho⟩
  | n :: l, st, out, h0, hs, ho => by
    rw [outF]
    cases hg : bget b n with
    | none => exact out_some hf hb hc l st out h0 hs ho
    | some x =>
      obtain ⟨u, st', pa', e, a1, a2, a3, a4, a5⟩ := app_some hb f (mT n) st 0 (few_mT n) h0 (by omega) (by omega) (by omega) (by omega)
      simp only
      unfold applyF
      rw [e]
      simp only
      by_cases hq : pa' > 5000 ∨ st' > maxS
      · rw [if_pos hq]
        exact ⟨none, rfl, fun o st' h => by cases h⟩
      · rw [if_neg hq]
        have hst : ¬ st' > 1048576 := fun e => hq (.inr e)
        refine out_some hf hb hc l st' _ (by omega) (by omega) ?_
        intro y hy
        rcases List.mem_append.1 hy with hy | hy
        · exact ho y hy
        · rw [List.mem_singleton.1 hy]; exact a1
theorem inv_s00 : InvS s00 := ⟨⟨fun x hx => absurd hx (by simp [s00]), fun x hx => absurd hx (by simp [s00])⟩, rfl, by simp [s00], by simp [s00]⟩
theorem solve_some {f : Nat} (hf : 4000000 ≤ f) {l : List Pr} (hg : ∀ p ∈ l, GoodP p) : ∃ a, solveF f l = some a ∧ (∀ i c, a = .bad i c → c = 3 ∨ c = 140) ∧ (∀ o, a = .ok o → ∀ x ∈ o, Few x.2) := by
  obtain ⟨r, e, h⟩ := slv_some hf l 0 s00 [] hg inv_s00 (by simp [s00])
  unfold solveF
  rw [e]
  cases r with
  | inl q =>
    obtain ⟨i, c⟩ := q
    exact ⟨_, rfl, fun i c e => by cases e; exact h, fun o e => by cases e⟩
  | inr q =>
    obtain ⟨s, ms⟩ := q
    obtain ⟨hi, hs⟩ := h
    obtain ⟨r, e, ho⟩ := out_some hf hi.b hi.cap (compZ (sortZ ms)) s.st [] (by have := hi.le; omega) hs (fun x hx => absurd hx (by simp))
    simp only
    rw [e]
    cases r with
    | none => exact ⟨_, rfl, fun i c e => by cases e; exact .inl rfl, fun o e => by cases e⟩
    | some q =>
      obtain ⟨o, st'⟩ := q
      exact ⟨_, rfl, (fun i c e => by cases e), fun o' e => by cases e; exact ho _ _ rfl⟩

theorem kids_comm {g : Ty → Ty → St → Option (Bool × St)} (hg : ∀ x y s, g x y s = g y x s) : ∀ (l m : List Ty) (s : St), kidsF g l m s = kidsF g m l s
  | [], [], s => rfl
  | [], _ :: _, s => rfl
  | _ :: _, [], s => rfl
  | x :: l, y :: m, s => by
    rw [kidsF, kidsF, hg x y s]
    cases g y x s with
    | none => rfl
    | some q =>
      obtain ⟨r, s'⟩ := q
      cases r with
      | false => rfl
      | true => exact kids_comm hg l m s'
theorem meta_one {f : Nat} {a b : Ty} {s : St} (h1 : a.kind = 2) (h2 : b.kind = 2) (h : a.n = b.n) : metaF f a b s = metaF f b a s := by
  unfold metaF
  rw [if_pos ⟨h2, h.symm⟩, if_pos ⟨h1, h⟩]
theorem unif_comm : ∀ (f : Nat) (x y : Ty) (s : St), unifF f x y s = unifF f y x s
  | 0, _, _, _ => rfl
  | f + 1, x, y, s => by
    rw [unifF, unifF]
    cases headF f s.b x with
    | none => cases headF f s.b y <;> rfl
    | some a =>
      cases headF f s.b y with
      | none => rfl
      | some b =>
        simp only
        by_cases hm : stepI s.st ≤ maxS
        · rw [if_pos hm, if_pos hm]
          by_cases ha : a.kind = 2
          · by_cases hb : b.kind = 2
            · by_cases h1 : b.n > a.n
              · rw [if_neg (fun e => e.2 ⟨hb, h1⟩), if_pos hb, if_pos ⟨hb, fun e => by have := e.2; omega⟩]
              · by_cases h2 : a.n > b.n
                · rw [if_pos ⟨ha, fun e => h1 e.2⟩, if_neg (fun e => e.2 ⟨ha, h2⟩), if_pos ha]
                · rw [if_pos ⟨ha, fun e => h1 e.2⟩, if_pos ⟨hb, fun e => h2 e.2⟩]
                  exact meta_one ha hb (by omega)
            · rw [if_pos ⟨ha, fun e => hb e.1⟩, if_neg (fun e => hb e.1), if_pos ha]
          · by_cases hb : b.kind = 2
            · rw [if_neg (fun e => ha e.1), if_pos hb, if_pos ⟨hb, fun e => ha e.1⟩]
            · rw [if_neg (show ¬ (a.kind = 2 ∧ ¬ (b.kind = 2 ∧ b.n > a.n)) from fun e => ha e.1), if_neg hb, if_neg (show ¬ (b.kind = 2 ∧ ¬ (a.kind = 2 ∧ a.n > b.n)) from fun e => hb e.1), if_neg ha]
              by_cases hc : b.kind = a.kind ∧ b.name = a.name ∧ b.n = a.n
              · rw [if_pos hc, if_pos (show a.kind = b.kind ∧ a.name = b.name ∧ a.n = b.n from ⟨hc.1.symm, hc.2.1.symm, hc.2.2.symm⟩)]
                by_cases hl : b.kids.length = a.kids.length
                · rw [if_pos hl, if_pos (show a.kids.length = b.kids.length from hl.symm), hl]
                  rw [kids_comm (fun x y s => unif_comm f x y s)]
                · rw [if_neg hl, if_neg (show ¬ a.kids.length = b.kids.length from fun e => hl e.symm)]
              · rw [if_neg hc, if_neg (show ¬ (a.kind = b.kind ∧ a.name = b.name ∧ a.n = b.n) from fun e => hc ⟨e.1.symm, e.2.1.symm, e.2.2.symm⟩)]
        · rw [if_neg hm, if_neg hm]
theorem sort_perm {l m : List Int} (h : l.Perm m) : sortZ l = sortZ m := by
  have tr : ∀ a b c : Int, decide (a ≤ b) = true → decide (b ≤ c) = true → decide (a ≤ c) = true := fun a b c h1 h2 => by simp only [decide_eq_true_eq] at *; omega
  have to : ∀ a b : Int, (decide (a ≤ b) || decide (b ≤ a)) = true := fun a b => by simp only [Bool.or_eq_true, decide_eq_true_eq]; omega
  exact List.Perm.eq_of_pairwise (le := fun a b => decide (a ≤ b) = true) (fun a b _ _ h1 h2 => by simp only [decide_eq_true_eq] at h1 h2; omega) (List.pairwise_mergeSort tr to l) (List.pairwise_mergeSort tr to m)
    ((List.mergeSort_perm l _).trans (h.trans (List.mergeSort_perm m _).symm))
/-- The same answer, but for the order of the metas. -/
inductive Alike : Option (Nat × Int ⊕ St × List Int) → Option (Nat × Int ⊕ St × List Int) → Prop
  | none : Alike none none
  | bad (x : Nat × Int) : Alike (some (.inl x)) (some (.inl x))
  | ok (s : St) {l m : List Int} (h : l.Perm m) : Alike (some (.inr (s, l))) (some (.inr (s, m)))
theorem slv_swap (f : Nat) : ∀ (l : List Pr) (i : Nat) (s : St) (ms ms' : List Int), ms.Perm ms' → Alike (slvF f i l s ms) (slvF f i (l.map swapP) s ms')
  | [], i, s, ms, ms', h => .ok s h
  | p :: l, i, s, ms, ms', h => by
    rw [List.map_cons, slvF, slvF]
    show Alike _ (match unifF f p.b p.a s with | none => _ | some (r, s') => _)
    rw [unif_comm f p.b p.a s]
    cases unifF f p.a p.b s with
    | none => exact .none
    | some q =>
      obtain ⟨r, s'⟩ := q
      simp only
      by_cases hc : uniE r s' = 0
      · rw [if_pos hc, if_pos hc]
        refine slv_swap f l _ _ _ _ ?_
        show List.Perm (ms ++ metsF p.a ++ metsF p.b) (ms' ++ metsF p.b ++ metsF p.a)
        rw [List.append_assoc, List.append_assoc]
        exact h.append List.perm_append_comm
      · rw [if_neg hc, if_neg hc]
        exact .bad _
theorem solve_swap (f : Nat) (l : List Pr) : solveF f (l.map swapP) = solveF f l := by
  have h := slv_swap f l 0 s00 [] [] (.refl _)
  unfold solveF
  generalize slvF f 0 l s00 [] = a at h
  generalize slvF f 0 (l.map swapP) s00 [] = b at h
  cases h with
  | none => rfl
  | bad x => rfl
  | ok s h => simp only; rw [sort_perm h]
theorem slv_take (f : Nat) : ∀ (l : List Pr) (n i : Nat) (s : St) (ms : List Int) (x : St × List Int), slvF f i l s ms = some (.inr x) → ∃ y, slvF f i (l.take n) s ms = some (.inr y)
  | [], n, i, s, ms, x, h => ⟨x, by simpa using h⟩
  | p :: l, 0, i, s, ms, x, h => ⟨(s, ms), rfl⟩
  | p :: l, n + 1, i, s, ms, x, h => by
    rw [List.take_succ_cons]
    rw [slvF] at h ⊢
    cases hx : unifF f p.a p.b s with
    | none => rw [hx] at h; cases h
    | some q =>
      obtain ⟨r, s'⟩ := q
      rw [hx] at h
      simp only at h ⊢
      by_cases hc : uniE r s' = 0
      · rw [if_pos hc] at h ⊢
        exact slv_take f l n _ _ _ _ h
      · rw [if_neg hc] at h; cases h
theorem solve_take {f : Nat} {l : List Pr} {o : Bd} (h : solveF f l = some (.ok o)) (n : Nat) {a : Ans} (ha : solveF f (l.take n) = some a) : (∃ o', a = .ok o') ∨ a = .bad 0 3 := by
  unfold solveF at h ha
  cases hs : slvF f 0 l s00 [] with
  | none => rw [hs] at h; cases h
  | some q =>
    cases q with
    | inl q => rw [hs] at h; cases h
    | inr q =>
      obtain ⟨y, hy⟩ := slv_take f l n 0 s00 [] q hs
      rw [hy] at ha
      obtain ⟨s, ms⟩ := y
      simp only at ha
      cases ho : outF f s.b (compZ (sortZ ms)) s.st [] with
      | none => rw [ho] at ha; cases ha
      | some r =>
        rw [ho] at ha
        cases r with
        | none => cases ha; exact .inr rfl
        | some r => cases ha; exact .inl ⟨_, rfl⟩
/-! What the law's own loops answer. -/
abbrev p3b0b (a b c d e f : PV) : Q := ⟨2, [a, b, c, d, e, f]⟩
theorem hp3b0b (a b c e f) (l : List Pr) {O} : body PG EE TT O (p3b0b a b c (prs l) e f) = g3b0b (T := Sm) a b c (prs l) e f O := h3b0b ..
theorem swl_b (l : List Pr) (hb : l.length ≤ 1000) (X E : PV) : ∀ (m : List Pr) (i : Nat) (D : List Pr), l.drop i = m → D.length ≤ i →
    ev (p3b0b (iv (i : Int)) (iv l.length) (prs l) (prs D) X E) = some (1, [X, prs (D ++ m.map swapP), E])
  | [], i, D, hd, hD => by
    have hi := drop_nil hd
    refine Evl.of ?_
    rw [hp3b0b, g3b0b]
    simp [hi]
  | p :: m, i, D, hd, hD => by
    obtain ⟨a1, a2, a3⟩ := drop_cons hd
    have hin : i < l.length := by omega
    have e0 := wrap1 hin (by omega)
    have e1 : ((i + 1 : Nat) : Int) = (i : Int) + 1 := by omega
    have ih := swl_b l hb X E m (i + 1) (D ++ [swapP p]) a3 (by simp; omega)
    rw [e1, List.append_assoc, List.cons_append, List.nil_append] at ih
    have h2 := fun k => appK_prs (k := k) D p (by omega)
    refine Evl.of ?_
    rw [hp3b0b, g3b0b, List.map_cons]
    simp [hin, idxK_prs a1, h2, e0, ih]
theorem swl_a (l : List Pr) (hb : l.length ≤ 1000) (X E : PV) : ev (q3b0a (iv 0) (iv l.length) (prs l) X E) = some (if l = [] then (0, [X, nilS, E]) else (1, [X, prs (l.map swapP), E])) := Evl.of (by
  rw [h3b0a, g3b0a]
  cases l with
  | nil => simp [nilS]
  | cons p m =>
    have ih := swl_b (p :: m) hb X E m 1 [swapP p] rfl (by simp)
    have a1 : (p :: m)[0]? = some p := rfl
    have hx := fun k => idxK_prs (d := Res.fail) (k := k) a1
    have e0 : IntKind.i64.wrap 1 = 1 := by rw [IntKind.wrap_i64]; rfl
    have h3 := prs_one p
    have hlt : (0 : Int) < ((m.length : Nat) : Int) + 1 := by omega
    simp only [Int.ofNat_one, Int.natCast_one, Int.ofNat_zero, Int.natCast_zero, List.length_cons, List.cons_append, List.nil_append] at ih hx
    simp [hx, h3, e0, hlt] at ih ⊢
    simp [ih])
theorem cmp_l (o : Bd) (hb : o.length ≤ 9223372036854775807) (hf : ∀ x ∈ o, Few x.2) (X Y Z : PV) : ∀ (m : Bd) (i : Nat), o.drop i = m → ev (q3b2a (iv (i : Int)) (iv o.length) (sbs o) (sbs o) X Y Z) = some (1, [X, Y, Z])
  | [], i, hd => by
    have hi := drop_nil hd
    refine Evl.of ?_
    rw [h3b2a, g3b2a]
    simp [hi]
  | x :: m, i, hd => by
    obtain ⟨a1, a2, a3⟩ := drop_cons hd
    have hin : i < o.length := by omega
    have e0 := wrap1 hin hb
    have e1 : ((i + 1 : Nat) : Int) = (i : Int) + 1 := by omega
    have ih := cmp_l o hb hf X Y Z m (i + 1) a3
    rw [e1] at ih
    have h1 : ev _ = _ := same_ev (hf x (List.mem_of_getElem? a1)).fit
    refine Evl.of ?_
    rw [h3b2a, g3b2a]
    simp [hin, idxK_sbs a1, h1, e0, ih]
def ansW : Ans → List PV
  | .ok l => [sbs l, iv 0, iv 0]
  | .bad i c => [sbs [], iv (i : Int), iv c]
theorem solve_w {f : Nat} {l : List Pr} (hb : l.length ≤ 1000) (hg : ∀ p ∈ l, GoodP p) {a : Ans} (h : solveF f l = some a) : ev (q7w (prs l)) = some (0, ansW a) := Evl.of (by
  have h1 := solve_ev hb hg h
  rw [h7w]
  show weakK (ev (q7 (prs l))) = _
  rw [h1]
  cases a with
  | ok l =>
    show weakK (some (if l = [] then (0, [nilS, iv 0, iv 0]) else (1, [sbs l, iv 0, iv 0]))) = _
    by_cases hl : l = []
    · rw [if_pos hl, hl]; rfl
    · rw [if_neg hl]; rfl
  | bad i c => rfl)
theorem awk_ev : ev q5 = some (0, [bv true]) := Evl.of (by rw [h5]; rfl)
theorem slcK_prs {k : AV → Res} {l : List Pr} {i : Nat} (h : i ≤ l.length) : slcK Try.prog .fail 22 (.pv (prs l)) none (some (.pv (.lit (.int .i64 (i : Int))))) k = k (.pv (prs (l.take i))) :=
  slcK_of (slc_one (by have := slc_to sl_prs (es := l.map Pr.cells) (m := i) (by simpa using h); rwa [← List.map_take] at this)) (.pv _ (ns_prs _))
theorem out_le {f : Nat} {b : Bd} : ∀ (l : List Int) (st : Int) (out o : Bd) (st' : Int), outF f b l st out = some (some (o, st')) → o.length ≤ out.length + l.length
  | [], st, out, o, st', h => by rw [outF] at h; cases h; simp
  | n :: l, st, out, o, st', h => by
    rw [outF] at h
    rw [List.length_cons]
    split at h
    · have := out_le l _ _ _ _ h; omega
    · split at h
      · cases h
      · cases h
      · have := out_le l _ _ _ _ h; simp at this; omega
theorem solve_len {f : Nat} {l : List Pr} (hb : l.length ≤ 1000) (hg : ∀ p ∈ l, GoodP p) {o : Bd} (h : solveF f l = some (.ok o)) : o.length ≤ 9223372036854775807 := by
  unfold solveF at h
  cases hs : slvF f 0 l s00 [] with
  | none => rw [hs] at h; cases h
  | some q =>
    rw [hs] at h
    cases q with
    | inl q => cases h
    | inr q =>
      obtain ⟨s, ms⟩ := q
      simp only at h
      have h1 := slv_ms f l 0 s00 [] s ms hg hs
      cases ho : outF f s.b (compZ (sortZ ms)) s.st [] with
      | none => rw [ho] at h; cases h
      | some r =>
        rw [ho] at h
        cases r with
        | none => cases h
        | some r =>
          obtain ⟨o', st'⟩ := r
          cases h
          have h2 := out_le _ _ _ _ _ ho
          have h3 := comp_len (sortZ ms)
          rw [sort_len] at h3
          simp at h1 h2
          omega
/-- THE LAW'S VALUE. -/
theorem law_ev (l : List Pr) (n : Int) (hl : l.length ≤ 9223372036854775807) (hf : ∀ p ∈ l, FitP p) : ev (q3 (prs l) (iv n)) = some (0, [bv true]) := Evl.of (by
  have ha := awk_ev
  have hs := small_ev l hl hf
  rw [h3, g3]
  cases hsm : smallF l with
  | false =>
    rw [hsm] at hs
    simp [ha, hs]
  | true =>
    rw [hsm] at hs
    by_cases hn : n < 0
    · simp [ha, hs, hn]
    · by_cases hn2 : n > l.length
      · simp [ha, hs, hn, lenK_prs, hn2]
      · unfold smallF at hsm
        simp only [Bool.and_eq_true, List.all_eq_true, decide_eq_true_eq] at hsm
        have hb : l.length ≤ 1000 := by omega
        have hg : ∀ p ∈ l, GoodP p := fun p hp => good_small (hsm.1 p hp)
        have hgm : ∀ p ∈ l.map swapP, GoodP p := fun p hp => by
          obtain ⟨q, hq, rfl⟩ := List.mem_map.1 hp
          obtain ⟨g1, g2, g3, g4⟩ := hg q hq
          exact ⟨g2, g1, g4, g3⟩
        obtain ⟨k, rfl⟩ : ∃ k : Nat, n = k := ⟨n.toNat, by omega⟩
        have hk : k ≤ l.length := by omega
        obtain ⟨a, ea, c1, c2⟩ := solve_some (Nat.le_refl 4000000) hg
        obtain ⟨b, eb, d1, d2⟩ := solve_some (f := 4000000) (Nat.le_refl 4000000) (l := l.take k) (fun p hp => hg p (List.mem_of_mem_take hp))
        have em := solve_swap 4000000 l
        rw [ea] at em
        have w1 := solve_w hb hg ea
        have w2 := solve_w (by simpa using hb) hgm em
        have w3 := solve_w (by simp; omega) (fun p hp => hg p (List.mem_of_mem_take hp)) eb
        have hsw := swl_a l hb (prs l) (iv (k : Int))
        have hcut := fun kk => slcK_prs (k := kk) (l := l) hk
        have hw2 : l = [] → ev (q7w (.rows [])) = some (0, ansW a) := fun e => by subst e; exact w1
        have hgo : ∀ m : PV, ev (q7w m) = some (0, ansW a) → True := fun _ _ => trivial
        have hn2' : ¬ (l.length < k) := by omega
        cases a with
        | ok o =>
          have fo := c2 o rfl
          have lo := solve_len hb hg ea
          have hcm := cmp_l o lo fo (prs l) (iv (k : Int)) (iv 0) o 0 rfl
          simp only [Int.ofNat_zero, Int.natCast_zero] at hcm
          have hb3 : (∃ o', b = .ok o') ∨ b = .bad 0 3 := solve_take ea k eb
          have w3' : ∃ X Y : PV, ∃ e : Int, (e = 0 ∨ e = 3) ∧ ev (q7w (prs (l.take k))) = some (0, [X, Y, iv e]) := by
            rcases hb3 with ⟨o', rfl⟩ | rfl
            · exact ⟨_, _, 0, .inl rfl, w3⟩
            · exact ⟨_, _, 3, .inr rfl, w3⟩
          obtain ⟨X, Y, e, he, w3'⟩ := w3'
          by_cases hl0 : l = []
          · have hw2 := hw2 hl0
            rw [if_pos hl0] at hsw
            unfold ansW at w1 hw2
            rcases he with rfl | rfl <;> simp [nilS] at hsw <;> simp [ha, hs, lenK_prs, hn2', hsw, w1, hw2, lenK_sbs, hcm, hcut, w3']
          · rw [if_neg hl0] at hsw
            unfold ansW at w1 w2
            rcases he with rfl | rfl <;> simp [ha, hs, lenK_prs, hn2', hsw, w1, w2, lenK_sbs, hcm, hcut, w3']
        | bad i c =>
          have hc := c1 i c rfl
          have hcm := cmp_l [] (by simp) (by simp) (prs l) (iv (k : Int)) (iv c) [] 0 rfl
          simp only [Int.ofNat_zero, Int.natCast_zero, List.length_nil] at hcm
          have w3' : ∃ X Y Z : PV, ev (q7w (prs (l.take k))) = some (0, [X, Y, Z]) := by
            cases b with
            | ok o' => exact ⟨_, _, _, w3⟩
            | bad i' c' => exact ⟨_, _, _, w3⟩
          obtain ⟨X, Y, Z, w3'⟩ := w3'
          by_cases hl0 : l = []
          · have hw2 := hw2 hl0
            rw [if_pos hl0] at hsw
            unfold ansW at w1 hw2
            rcases hc with rfl | rfl <;> simp [nilS] at hsw <;> simp [ha, hs, lenK_prs, hn2', hsw, w1, hw2, lenK_sbs, hcm, hcut, w3']
          · rw [if_neg hl0] at hsw
            unfold ansW at w1 w2
            rcases hc with rfl | rfl <;> simp [ha, hs, lenK_prs, hn2', hsw, w1, w2, lenK_sbs, hcm, hcut, w3'])

theorem ev_fx {q : Q} {r : Rs} {ent : Ent} {sh : Shape} {args : List AV} {h h' : List AObj} {v : AV} (he : EE q.k = ent) (hl : ent.lp = none) (hs : shp SS EE q.k r.1 = sh) (ha : openAVs (nm q.xs) ent.args = args) (hh : openH (nm q.xs) ent.h = h) (hv : openAV (nm r.2) sh.v = v) (hh' : openH (nm r.2) sh.h = h')
    (hn : q.xs.length = ent.n) (hr : ent.rin = []) (hns : NSL q.xs) (h0 : ev q = some r) : Sem Try.prog ent.f args h v h' ∧ NSL r.2 := by
  obtain ⟨h1, h2⟩ := ev_sound h0 ⟨by rw [he]; exact hn, hns, by rw [he, hr]; intro i hi; cases hi⟩
  refine ⟨?_, h2.ns⟩
  unfold SemQ at h1
  rw [he, hl] at h1
  simp only at h1
  rw [hs, ha, hh, hv, hh'] at h1
  exact h1
theorem law_sem (l : List Pr) (n : Int) (hl : l.length ≤ 9223372036854775807) (hf : ∀ p ∈ l, FitP p) : Sem Try.prog 3 [.pv (prs l), .pv (iv n)] [] (.pv (bv true)) [] :=
  (ev_fx (q := q3 (prs l) (iv n)) (r := (0, [bv true])) (ent := EE 0) (sh := shp SS EE 0 0) rfl (by kernel_rfl) rfl (by kernel_rfl) (by kernel_rfl) (by kernel_rfl) (by kernel_rfl) (by kernel_rfl) (by kernel_rfl) (by
    intro p hp
    simp only [List.mem_cons, List.not_mem_nil, or_false] at hp
    rcases hp with rfl | rfl
    · exact ns_prs l
    · exact .lit _) (law_ev l n hl hf)).1

theorem lt_of_get {α : Type} {l : List α} {i : Nat} {a : α} (h : l[i]? = some a) : i < l.length := (List.getElem?_eq_some_iff.1 h).1
def maxN : Nat := 9223372036854775807
def Kw (w : World) : Kn := ⟨fun g o => w.cell? ⟨g, o, none⟩, fun _ => 0, fun _ => 0, fun _ => none, fun _ => .any, fun _ => 0, fun b cs h => by cases h⟩
theorem WR.world (w : World) : WR (Kw w) [] w := by
  refine ⟨fun _ _ => rfl, (fun i hi => by simp at hi), (fun i g h => by cases h), (fun i ty cells h => by simp at h), (fun i ks vs h => by simp at h), (fun i ty sz len h => by simp at h), (fun i j x y g h => by simp at h), (fun i ty cells g h => by simp at h), fun g o v h => h, (fun i ty sz p h => by simp at h)⟩
def AllR (w : World) (ps : List PV) (cs : List Value) : Prop := ps.length = cs.length ∧ ∀ i (h : i < ps.length) (h' : i < cs.length), PR (Kw w).R (Kw w).M ps[i] cs[i]
section
variable {H : Type} {enc : TypeId × Value → H} {P : Program} {w : World} {held : Bool}
abbrev rd (enc : TypeId × Value → H) (P : Program) (w : World) (held : Bool) (n : Nat) (t : TypeId) (cs : List Value) (d : DataW H) : Prop := ∃ q, DataW.trod enc P w 0 (fun _ => true) held n t cs = some (d, q)
/-- A slice. -/
theorem rd_slice {α : Type} (cells : α → List PV) (Q : α → Prop) {t e : TypeId} {sz n : Nat} {cs : List Value} {d : DataW H} (ht : P.underlying t = some (.slice e)) (hsz : P.cellsOf e = sz) (hpos : 0 < sz) (hc : ∀ x, (cells x).length = sz)
    (he : ∀ m cs d, m < n → rd enc P w held m e cs d → ∃ x, AllR w (cells x) cs ∧ Q x) (h : rd enc P w held n t cs d) :
    ∃ (l : List α) (c : Value), cs = [c] ∧ PR (Kw w).R (Kw w).M (.rows (l.map cells)) c ∧ l.length ≤ maxN ∧ ∀ x ∈ l, Q x := by
  obtain ⟨q, h⟩ := h
  rcases DataW.trod_slice ht h with ⟨rfl, hx⟩ | ⟨a, len, cap, elems, rest, m, rfl, rfl, hx, _, hl, hcap, hel, hat, _, _⟩
  · cases hx
    exact ⟨[], _, rfl, PR.nilRow, Nat.zero_le _, fun x hx => by cases hx⟩
  · cases hx
    have key : ∀ i : Fin len, ∃ x : α, ∃ us : List Value, w.cells? 0 (a.add (i * sz)) sz = some us ∧ AllR w (cells x) us ∧ Q x := by
      intro i
      have := hat i i.2
      rw [hsz, List.getElem?_eq_getElem (by rw [hel]; exact i.2)] at this
      simp only [Option.bind_eq_some_iff] at this
      obtain ⟨us, h1, h2⟩ := this
      obtain ⟨x, h3, h4⟩ := he m us _ (by omega) ⟨_, h2⟩
      exact ⟨x, us, h1, h3, h4⟩
    let g : Fin len → α := fun i => (key i).choose
    have hg : ∀ i : Fin len, ∃ us : List Value, w.cells? 0 (a.add (i * sz)) sz = some us ∧ AllR w (cells (g i)) us ∧ Q (g i) := fun i => (key i).choose_spec
    refine ⟨List.ofFn g, _, rfl, ?_, ?_, ?_⟩
    · have hspot : ∀ i : Nat, i < len → ∀ j, j < sz → (a.add (i * sz)).add j = ⟨a.block, a.off + i * sz + j, none⟩ := by
        intro i hi j hj
        have hsp : a.spot = none := by
          obtain ⟨us, h1, _⟩ := hg ⟨0, by omega⟩
          obtain ⟨_, hlen, hcell⟩ := World.cells?_some h1
          have := hcell 0 hpos
          have hlt : 0 < us.length := by omega
          rw [List.getElem?_eq_getElem hlt] at this
          simp only [Nat.zero_mul, Addr.add, if_true, World.cell?] at this
          split at this
          · split at this
            · cases this
            · rename_i hs
              cases hsp : a.spot with
              | none => rfl
              | some x => rw [hsp] at hs; simp at hs
          · cases this
        obtain ⟨b, o, sp⟩ := a
        simp only at hsp
        subst hsp
        unfold Addr.add
        by_cases h1 : i * sz = 0
        · by_cases h2 : j = 0
          · simp [h1, h2]
          · simp [h1, h2]
        · by_cases h2 : j = 0
          · simp [h1, h2]
          · simp [h1, h2]
      have hcs : ∀ i : Nat, ∀ hi : i < len, ∃ us : List Value, us.length = sz ∧ AllR w (cells (g ⟨i, hi⟩)) us ∧ ∀ j, j < sz → w.cell? ⟨a.block, a.off + i * sz + j, none⟩ = us[j]? := by
        intro i hi
        obtain ⟨us, h1, h2, _⟩ := hg ⟨i, hi⟩
        obtain ⟨_, hlen, hcell⟩ := World.cells?_some h1
        exact ⟨us, hlen, h2, fun j hj => by rw [← hspot i hi j hj]; exact hcell j hj⟩
      have hlen : (List.ofFn g).length = len := by simp
      have := PR.rows (R := (Kw w).R) (M := (Kw w).M) ((List.ofFn g).map cells) (some a) cap a.block a.off sz (fun i j => if hi : i < len then (hcs i hi).choose.getD j (.bool false) else .bool false)
        (fun hne => by
          have hl0 : 0 < len := by
            cases len with
            | zero => simp at hne
            | succ _ => omega
          have := hspot 0 hl0 0 hpos
          simp [Addr.add] at this
          rw [this]) (by simpa using hl) (fun i hi => by simp [hc]) ?_ ?_
      · simpa using this
      · intro i hi j hj
        have hi' : i < len := by simpa using hi
        simp only [hi', dif_pos]
        obtain ⟨h1, h2, h3⟩ := (hcs i hi').choose_spec
        show w.cell? _ = _
        rw [h3 j hj, List.getD_eq_getElem?_getD, List.getElem?_eq_getElem (by omega)]
        rfl
      · intro i hi j hj
        have hi' : i < len := by simpa using hi
        simp only [hi', dif_pos]
        obtain ⟨h1, h2, h3⟩ := (hcs i hi').choose_spec
        have hj' : j < sz := by simpa [hc] using hj
        have := h2.2 j (by rw [hc]; exact hj') (by omega)
        simp only [List.getElem_map, List.getElem_ofFn]
        rw [List.getD_eq_getElem?_getD, List.getElem?_eq_getElem (by omega)]
        exact this
    · simp only [List.length_ofFn]
      have : maxLen = maxN := rfl
      omega
    · intro x hx
      obtain ⟨i, rfl⟩ := List.mem_ofFn.1 hx
      obtain ⟨_, _, _, h4⟩ := hg i
      exact h4
def stB (P : Program) (t : TypeId) (l : List (Nat × Nat × Nat)) : Bool := match P.underlying t with
  | some (.struct fs) => decide (fs.toList.map (fun f => (f.type, f.offset, P.cellsOf f.type)) = l)
  | _ => false
theorem rd_struct {t : TypeId} {l : List (Nat × Nat × Nat)} {n : Nat} {cs : List Value} {d : DataW H} (hs : stB P t l = true) (h : rd enc P w held n t cs d) :
    ∃ (ds : List (DataW H)) (m : Nat), n = m + 1 ∧ d = .agg ds ∧ cs.length = P.cellsOf t ∧ ds.length = l.length ∧ ∀ i ty off c, l[i]? = some (ty, off, c) → ∃ (hi : i < ds.length), rd enc P w held m ty ((cs.drop off).take c) ds[i] := by
  unfold stB at hs
  split at hs
  · rename_i fs hfs
    have hs := of_decide_eq_true hs
    obtain ⟨q, h⟩ := h
    obtain ⟨xs, m, hm, hx, hl, hlen, hf⟩ := DataW.trod_struct hfs h
    cases hx
    have hll : l.length = fs.size := by rw [← hs]; simp
    refine ⟨_, m, hm, rfl, hl, by simp [hlen, hll], fun i ty off c hi => ?_⟩
    rw [← hs, List.getElem?_map] at hi
    obtain ⟨f, hf1, hf2⟩ := map_some' hi
    simp only [Prod.mk.injEq] at hf2
    obtain ⟨e1, e2, e3⟩ := hf2
    have hlt : i < xs.length := by
      have : i < fs.toList.length := lt_of_get hf1
      rw [hlen]; simpa using this
    have := hf i f (by simpa using hf1)
    rw [List.getElem?_eq_getElem hlt] at this
    refine ⟨by simpa using hlt, xs[i].2, ?_⟩
    rw [← e1, ← e2, ← e3]
    simpa using this
  · cases hs
end
section
variable {H : Type} {enc : TypeId × Value → H} {w : World} {held : Bool} {n : Nat} {cs : List Value} {d : DataW H}
theorem AllR.nil : AllR w [] [] := ⟨rfl, fun i h => by simp at h⟩
theorem AllR.cons {p : PV} {v : Value} {ps : List PV} {vs : List Value} (h : PR (Kw w).R (Kw w).M p v) (hl : AllR w ps vs) : AllR w (p :: ps) (v :: vs) := by
  refine ⟨by simp [hl.1], fun i hi hi' => ?_⟩
  cases i with
  | zero => exact h
  | succ i => exact hl.2 i (by simpa using hi) (by simpa using hi')
theorem AllR.append {ps qs : List PV} {vs us : List Value} (h : AllR w ps vs) (h' : AllR w qs us) : AllR w (ps ++ qs) (vs ++ us) := by
  refine ⟨by simp [h.1, h'.1], fun i hi hi' => ?_⟩
  by_cases hl : i < ps.length
  · have hl' : i < vs.length := by rw [← h.1]; exact hl
    rw [List.getElem_append_left hl, List.getElem_append_left hl']
    exact h.2 i hl hl'
  · have e := h.1
    rw [List.getElem_append_right (by omega), List.getElem_append_right (by omega)]
    have := h'.2 (i - ps.length) (by rw [List.length_append] at hi; omega) (by rw [List.length_append] at hi'; omega)
    simpa only [e] using this
theorem AllR.step (off c : Nat) {ps qs : List PV} (h : AllR w ps ((cs.drop off).take c)) (ht : AllR w qs (cs.drop (off + c))) : AllR w (ps ++ qs) (cs.drop off) := by
  rw [← List.take_append_drop c (cs.drop off), List.drop_drop]
  exact AllR.append h ht
theorem AllR.fin {k : Nat} (h : cs.length = k) : AllR w [] (cs.drop k) := by
  rw [List.drop_eq_nil_of_le (by omega)]
  exact AllR.nil
theorem u_str : Try.prog.underlying 9 = some .string := by kernel_rfl
theorem u_tysR : Try.prog.underlying 25 = some (.slice 27) := by kernel_rfl
theorem rd_int (h : rd enc Try.prog w held n 3 cs d) : ∃ k : Int, AllR w [iv k] cs := by
  obtain ⟨q, h⟩ := h
  obtain ⟨k, rfl, hx, _⟩ := DataW.trod_int u_int h
  exact ⟨k, .cons (.lit _ rfl) .nil⟩
theorem rd_str (h : rd enc Try.prog w held n 9 cs d) : ∃ s : ByteArray, AllR w [sv s] cs := by
  obtain ⟨q, h⟩ := h
  obtain ⟨s, rfl, _, _⟩ := DataW.trod_string u_str h
  exact ⟨s, .cons (.lit _ rfl) .nil⟩
theorem rd_rows {α : Type} (cells : α → List PV) (Q : α → Prop) {t e : TypeId} {sz : Nat} (ht : Try.prog.underlying t = some (.slice e)) (hsz : Try.prog.cellsOf e = sz) (hpos : 0 < sz) (hc : ∀ x, (cells x).length = sz)
    (he : ∀ m cs d, m < n → rd enc Try.prog w held m e cs d → ∃ x, AllR w (cells x) cs ∧ Q x) (h : rd enc Try.prog w held n t cs d) :
    ∃ l : List α, AllR w [.rows (l.map cells)] cs ∧ l.length ≤ maxN ∧ ∀ x ∈ l, Q x := by
  obtain ⟨l, c, rfl, h1, h2, h3⟩ := rd_slice cells Q ht hsz hpos hc he h
  exact ⟨l, .cons h1 .nil, h2, h3⟩
theorem rd_ty : ∀ (n : Nat) (cs : List Value) (d : DataW H), rd enc Try.prog w held n 27 cs d → ∃ v : Ty, AllR w v.cells cs ∧ Fit v := by
  intro n
  induction n using Nat.strongRecOn with
  | _ n ih =>
    intro cs d h
    obtain ⟨ds, m, rfl, rfl, hl, hdl, hf⟩ := rd_struct (l := [(3, 0, 1), (9, 1, 1), (3, 2, 1), (25, 3, 1)]) (by kernel_rfl) h
    have hz : Try.prog.cellsOf 27 = 4 := by kernel_rfl
    rw [hz] at hl
    obtain ⟨_, f0⟩ := hf 0 3 0 1 rfl
    obtain ⟨k, r0⟩ := rd_int f0
    obtain ⟨_, f1⟩ := hf 1 9 1 1 rfl
    obtain ⟨s, r1⟩ := rd_str f1
    obtain ⟨_, f2⟩ := hf 2 3 2 1 rfl
    obtain ⟨n, r2⟩ := rd_int f2
    obtain ⟨_, f3⟩ := hf 3 25 3 1 rfl
    obtain ⟨ks, r3, o3, q3⟩ := rd_rows Ty.cells Fit (sz := 4) u_tysR (by kernel_rfl) (by decide) Ty.cells_len (fun m' cs d hm h => ih m' (by omega) cs d h) f3
    refine ⟨.mk k s n ks, ?_, .mk o3 q3⟩
    rw [Ty.cells_eq]
    exact AllR.step 0 1 r0 (AllR.step 1 1 r1 (AllR.step 2 1 r2 (AllR.step 3 1 r3 (AllR.fin hl))))
theorem Pr.cells_len (p : Pr) : p.cells.length = 8 := by rw [Pr.cells, List.length_append, Ty.cells_len, Ty.cells_len]
theorem u_prsR : Try.prog.underlying 22 = some (.slice 29) := by kernel_rfl
theorem rd_pr (h : rd enc Try.prog w held n 29 cs d) : ∃ p : Pr, AllR w p.cells cs ∧ FitP p := by
  obtain ⟨ds, m, rfl, rfl, hl, hdl, hf⟩ := rd_struct (l := [(27, 0, 4), (27, 4, 4)]) (by kernel_rfl) h
  have hz : Try.prog.cellsOf 29 = 8 := by kernel_rfl
  rw [hz] at hl
  obtain ⟨_, f0⟩ := hf 0 27 0 4 rfl
  obtain ⟨a, r0, o0⟩ := rd_ty _ _ _ f0
  obtain ⟨_, f1⟩ := hf 1 27 4 4 rfl
  obtain ⟨b, r1, o1⟩ := rd_ty _ _ _ f1
  refine ⟨⟨a, b⟩, ?_, o0, o1⟩
  show AllR w (a.cells ++ b.cells) cs
  have := AllR.step 0 4 r0 (AllR.step 4 4 r1 (AllR.fin hl))
  simpa using this
theorem rd_prs (h : rd enc Try.prog w held n 22 cs d) : ∃ l : List Pr, AllR w [prs l] cs ∧ l.length ≤ maxN ∧ ∀ p ∈ l, FitP p :=
  rd_rows Pr.cells FitP (sz := 8) u_prsR (by kernel_rfl) (by decide) Pr.cells_len (fun m cs d _ h => rd_pr h) h
end
end Go.Proofs.Ytnepapfndihalaa
