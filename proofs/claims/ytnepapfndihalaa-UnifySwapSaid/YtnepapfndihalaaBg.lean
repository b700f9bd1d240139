/- Joined texts. -/
import Derived.Test.YtnepapfndihalaaBf
set_option linter.unusedVariables false
set_option linter.unusedSimpArgs false
set_option linter.unusedSectionVars false
namespace Go.Proofs.Ytnepapfndihalaa
open Go.RowKit

section
variable {β : Type} {d : β} {k : PV → β}
theorem sumK_ii (m n : Int) : sumK d (iv m) (iv n) k = k (iv (m + n)) := by
  refine theK_of (and_iff (fun w => ?_) (.lit _))
  constructor
  · rintro ⟨_, _, _, _, h1, h2, rfl⟩
    cases h1; cases h2; rfl
  · rintro rfl
    exact ⟨_, _, m, n, rfl, rfl, rfl⟩
def bdel (b : Bd) (n : Int) : Bd := match b.findIdx? (isN n) with
  | some j => b.eraseIdx j
  | none => b
theorem map_eraseI {α γ : Type} (f : α → γ) : ∀ (l : List α) (j : Nat), (l.eraseIdx j).map f = (l.map f).eraseIdx j
  | [], j => by simp
  | _ :: _, 0 => by simp
  | x :: l, j + 1 => by simp [map_eraseI f l j]
theorem delK_sbs (b : Bd) (n : Int) : delK Try.prog d 60 (sbs b) (.pv (.lit (.int .i64 n))) k = k (sbs (bdel b n)) := by
  have hf : findKP Try.prog 3 (.int .i64) (.int .i64 n) ((b.map sbC).map keyV) = some (b.findIdx? (isN n)) := by
    rw [keys_bd]; unfold findKP; rw [findK_n]
  have he : sbs (bdel b n) = .rows (match b.findIdx? (isN n) with | some j => (b.map sbC).eraseIdx j | none => b.map sbC) := by
    unfold bdel
    cases b.findIdx? (isN n) with
    | none => rfl
    | some j => simp only [sbs, map_eraseI]
  refine theK_of (and_iff (fun w => ?_) (ns_sbs _))
  constructor
  · rintro ⟨kt, et, dd, es, key, r, g1, g2, g3, _, g5, _, g7, g8, _⟩
    rw [u_map] at g1
    cases g1
    rw [u_int] at g2
    cases g2
    cases g3
    have g5 := Option.some.inj g5
    subst g5
    rw [hf] at g7
    cases g7
    rw [g8, he]
    cases b.findIdx? (isN n) <;> rfl
  · rintro rfl
    exact ⟨3, 27, .int .i64, b.map sbC, .int .i64 n, _, u_map, u_int, rfl, bd_ns b, rfl, rfl, hf, he, nsP_of (ns_sbs _)⟩
theorem slcK_from {k : AV → Res} {l : List Int} {i : Nat} (h : i ≤ l.length) : slcK Try.prog .fail 55 (.pv (ints l)) (some (.pv (.lit (.int .i64 (i : Int))))) none k = k (.pv (ints (l.drop i))) :=
  slcK_of (slc_one (by have := slc_from sl_ints (es := ivs l) (l := i) (by simpa [ivs] using h) (by simp [ivs]); rwa [ivs, ← List.map_drop] at this)) (.pv _ (ns_ints _))
theorem slcK_from0 {k : AV → Res} {l : List Int} : slcK Try.prog .fail 55 (.pv (ints l)) (some (.pv (.lit (.int .i64 0)))) none k = k (.pv (ints l)) := slcK_from (i := 0) (Nat.zero_le _)
theorem slcK_to0 {k : AV → Res} {l : List Int} : slcK Try.prog .fail 55 (.pv (ints l)) none (some (.pv (.lit (.int .i64 0)))) k = k (.pv (ints [])) := slcK_ints (i := 0) (Nat.zero_le _)
end
/-! What was bound is set free. -/
theorem del_b (l : List Int) (hl : l.length ≤ 1000000001) (n : Nat) (F G X : PV) : ∀ (m i : Nat) (b : Bd), (l.drop n).length = i + m → ∃ b', ev (q12bb0a (iv (i : Int)) (iv (l.drop n).length) (iv n) (ints (l.drop n)) X (ints l) F G (sbs b)) = some (0, [ints l, F, G, sbs b', X])
  | 0, i, b, h => ⟨b, Evl.of (by
    have hi : ¬ (i : Int) < (l.drop n).length := by omega
    rw [h12bb0a, g12bb0a]
    simp only [List.length_drop] at hi
    simp [hi])⟩
  | m + 1, i, b, h => by
    have hi : i < (l.drop n).length := by omega
    have hx : (l.drop n)[i]? = some ((l.drop n)[i]) := List.getElem?_eq_getElem hi
    have hy : l[n + i]? = some ((l.drop n)[i]) := by rw [← List.getElem?_drop, hx]
    obtain ⟨b', hb'⟩ := del_b l hl n F G X m (i + 1) (bdel b ((l.drop n)[i])) (by omega)
    generalize hv : (l.drop n)[i] = v at hx hy hb'
    refine ⟨b', Evl.of ?_⟩
    have e0 : IntKind.i64.wrap ((i : Int) + 1) = (i : Int) + 1 := by rw [IntKind.wrap_i64]; simp at hi; omega
    have e1 : ((i + 1 : Nat) : Int) = (i : Int) + 1 := by omega
    have e2 : ((n + i : Nat) : Int) = (n : Int) + (i : Int) := by omega
    have hiI : (i : Int) < (l.drop n).length := by omega
    have hk := fun k => idxK_ints (d := Res.fail) (k := k) hy
    rw [e2] at hk
    rw [e1] at hb'
    rw [h12bb0a, g12bb0a]
    simp only [List.length_drop] at hb' hiI ⊢
    simp [hiI, idxK_ints hx, sumK_ii, hk, delK_sbs, e0, hb']
theorem del_a (l : List Int) (hl : l.length ≤ 1000000001) (n : Nat) (F G : PV) : ∀ (m i : Nat) (b : Bd), (l.drop n).length = i + m → ∃ b', ev (q12ab0b (iv (i : Int)) (iv (l.drop n).length) (iv n) (ints (l.drop n)) (ints l) F G (sbs b)) = some (0, [ints l, F, G, sbs b', iv 0])
  | 0, i, b, h => ⟨b, Evl.of (by
    have hi : ¬ (i : Int) < (l.drop n).length := by omega
    rw [h12ab0b, g12ab0b]
    simp only [List.length_drop] at hi
    simp [hi])⟩
  | m + 1, i, b, h => by
    have hi : i < (l.drop n).length := by omega
    have hx : (l.drop n)[i]? = some ((l.drop n)[i]) := List.getElem?_eq_getElem hi
    have hy : l[n + i]? = some ((l.drop n)[i]) := by rw [← List.getElem?_drop, hx]
    obtain ⟨b', hb'⟩ := del_a l hl n F G m (i + 1) (bdel b ((l.drop n)[i])) (by omega)
    generalize hv : (l.drop n)[i] = v at hx hy hb'
    refine ⟨b', Evl.of ?_⟩
    have e0 : IntKind.i64.wrap ((i : Int) + 1) = (i : Int) + 1 := by rw [IntKind.wrap_i64]; simp at hi; omega
    have e1 : ((i + 1 : Nat) : Int) = (i : Int) + 1 := by omega
    have e2 : ((n + i : Nat) : Int) = (n : Int) + (i : Int) := by omega
    have hiI : (i : Int) < (l.drop n).length := by omega
    have hk := fun k => idxK_ints (d := Res.fail) (k := k) hy
    rw [e2] at hk
    rw [e1] at hb'
    rw [h12ab0b, g12ab0b]
    simp only [List.length_drop] at hb' hiI ⊢
    simp [hiI, idxK_ints hx, sumK_ii, hk, delK_sbs, e0, hb']

def uniE (r : Bool) (s : St) : Int := if s.st > maxS then 3 else if r then 0 else 140
theorem uny_a {f : Nat} {x y : Ty} {s s' : St} {r : Bool} (ht : s.tr = []) (hl : s'.tr.length ≤ 1000000001) (h : unifF f x y s = some (r, s')) : ∃ m : PV, ∃ t : PV, (uniE r s' = 0 → m = sbs s'.b ∧ t = ints s'.tr) ∧
    ev (q12a (iv x.kind) (sv x.name) (iv x.n) (tys x.kids) (iv y.kind) (sv y.name) (iv y.n) (tys y.kids) (iv s.fr) (iv s.st) (sbs s.b)) =
      some (if s'.tr = [] then (0, [.lit (.slice none 0 0), iv s'.fr, iv s'.st, m, iv (uniE r s')]) else (1, [iv s'.fr, iv s'.st, m, t, iv (uniE r s')])) := by
  have h1 := uni_a f x y s s' r ht h
  have hfr := (unif_ext f x y s s' r h).fr
  unfold outA at h1
  rw [hfr] at h1 ⊢
  have h0 := fun b => (Evl.of (by
    rw [h12ab0a, g12ab0a]
    simp) : ev (q12ab0a (iv 0) (iv s.fr) (iv s'.st) (sbs b)) = some (0, [.lit (.slice none 0 0), iv s.fr, iv s'.st, sbs b, iv 0]))
  by_cases hm : s'.st > maxS
  · have hm' : s'.st > 1048576 := hm
    refine ⟨sbs s'.b, ints s'.tr, fun _ => ⟨rfl, rfl⟩, Evl.of ?_⟩
    rw [h12a, g12a]
    by_cases ht' : s'.tr = []
    · rw [if_pos ht'] at h1
      cases r <;> simp [h1, hm, hm', uniE, ht']
    · rw [if_neg ht'] at h1
      cases r <;> simp [h1, hm, hm', uniE, ht']
  · have hm' : ¬ s'.st > 1048576 := hm
    cases r with
    | true =>
      refine ⟨sbs s'.b, ints s'.tr, fun _ => ⟨rfl, rfl⟩, Evl.of ?_⟩
      rw [h12a, g12a]
      by_cases ht' : s'.tr = []
      · rw [if_pos ht'] at h1
        simp [h1, hm, hm', uniE, ht']
      · rw [if_neg ht'] at h1
        simp [h1, hm, hm', uniE, ht']
    | false =>
      by_cases ht' : s'.tr = []
      · rw [if_pos ht'] at h1
        refine ⟨sbs s'.b, ints s'.tr, fun _ => ⟨rfl, rfl⟩, Evl.of ?_⟩
        rw [h12a, g12a]
        simp [h1, hm, hm', uniE, ht', h0]
      · rw [if_neg ht'] at h1
        obtain ⟨b', hb'⟩ := del_a s'.tr hl 0 (iv s.fr) (iv s'.st) s'.tr.length 0 s'.b (by simp)
        simp at hb'
        refine ⟨sbs b', ints [], fun h => absurd h (by simp [uniE, hm]), Evl.of ?_⟩
        rw [h12a, g12a]
        simp [h1, hm, hm', uniE, ht', slcK_from0, lenK_ints, hb', slcK_to0]
theorem uny_b {f : Nat} {x y : Ty} {s s' : St} {r : Bool} (hl : s'.tr.length ≤ 1000000001) (h : unifF f x y s = some (r, s')) : ∃ m : PV, ∃ t : PV, (uniE r s' = 0 → m = sbs s'.b ∧ t = ints s'.tr) ∧ (s'.tr.length = s.tr.length ∧ uniE r s' ≠ 140 → t = ints s.tr) ∧
    ev (q12b (iv x.kind) (sv x.name) (iv x.n) (tys x.kids) (iv y.kind) (sv y.name) (iv y.n) (tys y.kids) (iv s.fr) (iv s.st) (sbs s.b) (ints s.tr)) =
      some (if s'.tr.length = s.tr.length ∧ uniE r s' ≠ 140 then 0 else 1, [iv s'.fr, iv s'.st, m, t, iv (uniE r s')]) := by
  have h1 := uni_b f x y s s' r h
  have hfr := (unif_ext f x y s s' r h).fr
  obtain ⟨tl, htl⟩ := (unif_ext f x y s s' r h).tr
  have hst : s.tr.length ≤ s'.tr.length := by rw [htl, List.length_append]; omega
  rw [hfr] at h1 ⊢

  have hs2 : s'.tr.length = s.tr.length → ints s'.tr = ints s.tr := fun ht' => by
    have hsame : s'.tr = s.tr := by rw [htl] at ht'; simp at ht'; rw [htl, ht']; simp
    rw [hsame]
  by_cases hm : s'.st > maxS
  · have hm' : s'.st > 1048576 := hm
    refine ⟨sbs s'.b, ints s'.tr, fun _ => ⟨rfl, rfl⟩, fun e => hs2 e.1, Evl.of ?_⟩
    rw [h12b, g12b]
    by_cases ht' : s'.tr.length = s.tr.length
    · have hsame : s'.tr = s.tr := by rw [htl] at ht'; simp at ht'; rw [htl, ht']; simp
      rw [if_pos ht', hsame] at h1
      cases r <;> simp [lenK_ints, h1, hm, hm', uniE, hsame]
    · rw [if_neg ht'] at h1
      cases r <;> simp [lenK_ints, h1, hm, hm', uniE, ht']
  · have hm' : ¬ s'.st > 1048576 := hm
    cases r with
    | true =>
      refine ⟨sbs s'.b, ints s'.tr, fun _ => ⟨rfl, rfl⟩, fun e => hs2 e.1, Evl.of ?_⟩
      rw [h12b, g12b]
      by_cases ht' : s'.tr.length = s.tr.length
      · have hsame : s'.tr = s.tr := by rw [htl] at ht'; simp at ht'; rw [htl, ht']; simp
        rw [if_pos ht', hsame] at h1
        simp [lenK_ints, h1, hm, hm', uniE, hsame]
      · rw [if_neg ht'] at h1
        simp [lenK_ints, h1, hm, hm', uniE, ht']
    | false =>
      have hf1 := fun k => slcK_from (k := k) (l := s'.tr) (i := s.tr.length) hst
      have hf2 := fun k => slcK_ints (k := k) (l := s'.tr) (i := s.tr.length) hst
      obtain ⟨b', hb'⟩ := del_b s'.tr hl s.tr.length (iv s.fr) (iv s'.st) (iv s.tr.length) (s'.tr.drop s.tr.length).length 0 s'.b (by simp)
      simp only [Int.ofNat_zero, Int.natCast_zero] at hb'
      refine ⟨sbs b', ints (s'.tr.take s.tr.length), fun h => absurd h (by simp [uniE, hm]), fun e => absurd (by simp [uniE, hm]) e.2, Evl.of ?_⟩
      rw [h12b, g12b]
      by_cases ht' : s'.tr.length = s.tr.length
      · have hsame : s'.tr = s.tr := by rw [htl] at ht'; simp at ht'; rw [htl, ht']; simp
        rw [if_pos ht', hsame] at h1
        rw [hsame] at hf1 hf2 hb' ⊢
        simp [lenK_ints, h1, hm, hm', uniE, hf1, hf2] at hb' ⊢
        simp [hb', hf2]
      · rw [if_neg ht'] at h1
        simp [lenK_ints, h1, hm, hm', uniE, hf1, hf2] at hb' ⊢
        simp [hb', hf2]

/-! The metas of a type, each once. -/
def seeF (k n : Int) (acc : List Int) : List Int := if k = 2 ∧ ¬ n ∈ acc then acc ++ [n] else acc
mutual
def walkF : Ty → List Int → List Int
  | .mk k _ n ks, acc => walkL ks (seeF k n acc)
def walkL : List Ty → List Int → List Int
  | [], acc => acc
  | t :: l, acc => walkL l (walkF t acc)
end
theorem walkF_eq (t : Ty) (acc : List Int) : walkF t acc = walkL t.kids (seeF t.kind t.n acc) := by cases t; rw [walkF]; rfl
theorem see_le (k n : Int) (acc : List Int) : acc.length ≤ (seeF k n acc).length := by unfold seeF; split <;> simp
mutual
theorem walk_le : ∀ (t : Ty) (acc : List Int), acc.length ≤ (walkF t acc).length
  | .mk k s n ks, acc => by rw [walkF]; exact Nat.le_trans (see_le k n acc) (walkl_le ks _)
theorem walkl_le : ∀ (l : List Ty) (acc : List Int), acc.length ≤ (walkL l acc).length
  | [], acc => by rw [walkL]; exact Nat.le_refl _
  | t :: l, acc => by rw [walkL]; exact Nat.le_trans (walk_le t acc) (walkl_le l _)
end
theorem see_same {k n : Int} {acc : List Int} (h : (seeF k n acc).length = acc.length) : seeF k n acc = acc := by
  unfold seeF at h ⊢
  split
  · rename_i h1; rw [if_pos h1] at h; simp at h
  · rfl
mutual
theorem walk_same : ∀ {t : Ty} {acc : List Int}, (walkF t acc).length = acc.length → walkF t acc = acc
  | .mk k s n ks, acc, h => by
    rw [walkF] at h ⊢
    have h1 := see_le k n acc
    have h2 := walkl_le ks (seeF k n acc)
    have h3 := see_same (k := k) (n := n) (acc := acc) (by omega)
    rw [h3] at h ⊢
    exact walkl_same h
theorem walkl_same : ∀ {l : List Ty} {acc : List Int}, (walkL l acc).length = acc.length → walkL l acc = acc
  | [], acc, h => by rw [walkL]
  | t :: l, acc, h => by
    rw [walkL] at h ⊢
    have h1 := walk_le t acc
    have h2 := walkl_le l (walkF t acc)
    have h3 := walk_same (t := t) (acc := acc) (by omega)
    rw [h3] at h ⊢
    exact walkl_same h
end
/-- Where a number stands in a row. -/
theorem idx_ev (l : List Int) (hb : l.length ≤ 1000000000) (n : Int) : ∀ (m : List Int) (i : Nat), l.drop i = m →
    (n ∈ m → ∃ j : Int, 0 ≤ j ∧ ev (q45b0a (iv (i : Int)) (iv l.length) (iv n) (ints l)) = some (0, [iv j])) ∧ (¬ n ∈ m → ev (q45b0a (iv (i : Int)) (iv l.length) (iv n) (ints l)) = some (1, []))
  | [], i, h => by
    have hi := drop_nil h
    refine ⟨fun h => absurd h (by simp), fun _ => Evl.of ?_⟩
    rw [h45b0a, g45b0a]
    simp [hi]
  | x :: m, i, h => by
    obtain ⟨a1, a2, a3⟩ := drop_cons h
    have ih := idx_ev l hb n m (i + 1) a3
    have e0 : IntKind.i64.wrap ((i : Int) + 1) = (i : Int) + 1 := by rw [IntKind.wrap_i64]; omega
    have e1 : ((i + 1 : Nat) : Int) = (i : Int) + 1 := by omega
    rw [e1] at ih
    by_cases hx : n = x
    · refine ⟨fun _ => ⟨i, by omega, Evl.of ?_⟩, fun h => absurd (hx ▸ List.mem_cons_self) h⟩
      rw [h45b0a, g45b0a]
      simp [a2, idxK_ints a1, hx]
    · refine ⟨fun hm => ?_, fun hm => ?_⟩
      · obtain ⟨j, hj, h1⟩ := ih.1 ((List.mem_cons.1 hm).resolve_left hx)
        refine ⟨j, hj, Evl.of ?_⟩
        rw [h45b0a, g45b0a]
        simp [a2, idxK_ints a1, hx, e0, h1]
      · have h1 := ih.2 fun e => hm (List.mem_cons_of_mem _ e)
        refine Evl.of ?_
        rw [h45b0a, g45b0a]
        simp [a2, idxK_ints a1, hx, e0, h1]
theorem has_ev (l : List Int) (hb : l.length ≤ 1000000000) (n : Int) : ev (q36 (ints l) (iv n)) = some (0, [bv (decide (n ∈ l))]) := Evl.of (by
  have h := idx_ev l hb n l 0 rfl
  simp only [Int.ofNat_zero, Int.natCast_zero] at h
  have h45 : ∃ j : Int, ev (q45 (ints l) (iv n)) = some (0, [iv j]) ∧ (n ∈ l ↔ 0 ≤ j) := by
    by_cases hn : n ∈ l
    · obtain ⟨j, hj, h1⟩ := h.1 hn
      refine ⟨j, Evl.of ?_, ⟨fun _ => hj, fun _ => hn⟩⟩
      rw [h45, g45]
      simp [lenK_ints, h1]
    · have h1 := h.2 hn
      refine ⟨-1, Evl.of ?_, ⟨fun h => absurd h hn, fun h => by omega⟩⟩
      rw [h45, g45]
      simp [lenK_ints, h1]
  obtain ⟨j, h1, h2⟩ := h45
  rw [h36, g36]
  by_cases hn : n ∈ l
  · have hj := h2.1 hn
    simp [h1, hn, hj]
  · have hj : ¬ 0 ≤ j := fun e => hn (h2.2 e)
    simp [h1, hn, hj])
theorem has_nil (n : Int) : ev (q36 (.rows []) (iv n)) = some (0, [bv false]) := by
  have := has_ev [] (by simp) n
  rw [show decide (n ∈ ([] : List Int)) = false from by simp] at this
  exact this
abbrev p34b (a b c d e : PV) : Q := ⟨24, [a, b, c, d, e]⟩
theorem hp34b (a b c d) (l : List Int) {O} : body PG EE TT O (p34b a b c d (ints l)) = g34b (T := Sm) a b c d (ints l) O := h34b ..
abbrev p35b (a b c d e : PV) : Q := ⟨27, [a, b, c, d, e]⟩
theorem hp35b (a b c d) (l : List Int) {O} : body PG EE TT O (p35b a b c d (ints l)) = g35b (T := Sm) a b c d (ints l) O := h35b ..
abbrev p34ab0b (a b c e : PV) : Q := ⟨20, [a, b, c, e]⟩
theorem hp34ab0b (a b c) (l : List Int) {O} : body PG EE TT O (p34ab0b a b c (ints l)) = g34ab0b (T := Sm) a b c (ints l) O := h34ab0b ..
abbrev p34ab0c (a b c e : PV) : Q := ⟨21, [a, b, c, e]⟩
theorem hp34ab0c (a b c) (l : List Int) {O} : body PG EE TT O (p34ab0c a b c (ints l)) = g34ab0c (T := Sm) a b c (ints l) O := h34ab0c ..
abbrev p34ab0d (a b c e : PV) : Q := ⟨22, [a, b, c, e]⟩
theorem hp34ab0d (a b c) (l : List Int) {O} : body PG EE TT O (p34ab0d a b c (ints l)) = g34ab0d (T := Sm) a b c (ints l) O := h34ab0d ..
/-- The closure that sees a type. -/
theorem see_b (t : Ty) (acc : List Int) (hb : acc.length ≤ 999999999) : ev (p35b (iv t.kind) (sv t.name) (iv t.n) (tys t.kids) (ints acc)) = some (if (seeF t.kind t.n acc).length = acc.length then 0 else 1, [ints (seeF t.kind t.n acc)]) := Evl.of (by
  have h1 := has_ev acc (by omega) t.n
  have h2 := fun k => appK_ints (k := k) acc t.n (by omega)
  rw [hp35b, g35b]
  unfold seeF
  by_cases hk : t.kind = 2
  · by_cases hm : t.n ∈ acc
    · simp [hk, h1, hm]
    · simp [hk, h1, hm, h2]
  · simp [hk])
theorem see_a (t : Ty) : ev (q35a (iv t.kind) (sv t.name) (iv t.n) (tys t.kids)) = some (if seeF t.kind t.n [] = [] then (0, [.lit (.slice none 0 0)]) else (1, [ints (seeF t.kind t.n [])])) := Evl.of (by
  have h1 := has_nil t.n
  rw [h35a, g35a]
  unfold seeF
  by_cases hk : t.kind = 2
  · simp [hk, h1]; rfl
  · simp [hk])
/-! A type is walked through. -/
def WalkB (t : Ty) : Prop := ∀ acc : List Int, (walkF t acc).length ≤ 999999999 →
  ev (p34b (iv t.kind) (sv t.name) (iv t.n) (tys t.kids) (ints acc)) = some (if (walkF t acc).length = acc.length then 0 else 1, [ints (walkF t acc)])
def WalkA (t : Ty) : Prop := (walkF t []).length ≤ 999999999 →
  ev (q34a (iv t.kind) (sv t.name) (iv t.n) (tys t.kids)) = some (if walkF t [] = [] then (0, [.lit (.slice none 0 0)]) else (1, [ints (walkF t [])]))
theorem wk_34ab0c (l : List Ty) (hb : l.length ≤ 1000000) : ∀ (m : List Ty), (∀ t ∈ m, WalkB t) → ∀ (i : Nat) (acc : List Int), l.drop i = m → (walkL m acc).length ≤ 999999999 →
    ev (p34ab0c (iv (i : Int)) (iv l.length) (tys l) (ints acc)) = some (1, [ints (walkL m acc)])
  | [], hB, i, acc, h, hw => by
    have hi := drop_nil h
    refine Evl.of ?_
    rw [hp34ab0c, g34ab0c, walkL]
    simp [hi]
  | t :: m, hB, i, acc, h, hw => by
    obtain ⟨a1, a2, a3⟩ := drop_cons h
    have e0 : IntKind.i64.wrap ((i : Int) + 1) = (i : Int) + 1 := by rw [IntKind.wrap_i64]; omega
    have e1 : ((i + 1 : Nat) : Int) = (i : Int) + 1 := by omega
    rw [walkL] at hw ⊢
    have hle := walkl_le m (walkF t acc)
    have h1 := hB t List.mem_cons_self acc (by omega)
    have ih := wk_34ab0c l hb m (fun t ht => hB t (List.mem_cons_of_mem _ ht)) (i + 1) (walkF t acc) a3 hw
    rw [e1] at ih
    refine Evl.of ?_
    rw [hp34ab0c, g34ab0c]
    by_cases hs : (walkF t acc).length = acc.length
    · rw [if_pos hs] at h1
      rw [walk_same hs] at h1 ih ⊢
      simp [a2, idxK_tys a1, h1, e0, ih]
    · rw [if_neg hs] at h1
      simp [a2, idxK_tys a1, h1, e0, ih]
theorem wk_34ab0d (l : List Ty) (hb : l.length ≤ 1000000) : ∀ (m : List Ty), (∀ t ∈ m, WalkB t) → ∀ (i : Nat) (acc : List Int), l.drop i = m → (walkL m acc).length ≤ 999999999 →
    ev (p34ab0d (iv (i : Int)) (iv l.length) (tys l) (ints acc)) = some (1, [ints (walkL m acc)])
  | [], hB, i, acc, h, hw => by
    have hi := drop_nil h
    refine Evl.of ?_
    rw [hp34ab0d, g34ab0d, walkL]
    simp [hi]
  | t :: m, hB, i, acc, h, hw => by
    obtain ⟨a1, a2, a3⟩ := drop_cons h
    have e0 : IntKind.i64.wrap ((i : Int) + 1) = (i : Int) + 1 := by rw [IntKind.wrap_i64]; omega
    have e1 : ((i + 1 : Nat) : Int) = (i : Int) + 1 := by omega
    rw [walkL] at hw ⊢
    have hle := walkl_le m (walkF t acc)
    have h1 := hB t List.mem_cons_self acc (by omega)
    have ih := wk_34ab0d l hb m (fun t ht => hB t (List.mem_cons_of_mem _ ht)) (i + 1) (walkF t acc) a3 hw
    rw [e1] at ih
    refine Evl.of ?_
    rw [hp34ab0d, g34ab0d]
    by_cases hs : (walkF t acc).length = acc.length
    · rw [if_pos hs] at h1
      rw [walk_same hs] at h1 ih ⊢
      simp [a2, idxK_tys a1, h1, e0, ih]
    · rw [if_neg hs] at h1
      simp [a2, idxK_tys a1, h1, e0, ih]
theorem wk_34ab0b (l : List Ty) (hb : l.length ≤ 1000000) : ∀ (m : List Ty), (∀ t ∈ m, WalkB t) → ∀ (i : Nat) (acc : List Int), l.drop i = m → (walkL m acc).length ≤ 999999999 →
    ev (p34ab0b (iv (i : Int)) (iv l.length) (tys l) (ints acc)) = some (if (walkL m acc).length = acc.length then 0 else 1, [ints (walkL m acc)])
  | [], hB, i, acc, h, hw => by
    have hi := drop_nil h
    refine Evl.of ?_
    rw [hp34ab0b, g34ab0b, walkL]
    simp [hi]
  | t :: m, hB, i, acc, h, hw => by
    obtain ⟨a1, a2, a3⟩ := drop_cons h
    have e0 : IntKind.i64.wrap ((i : Int) + 1) = (i : Int) + 1 := by rw [IntKind.wrap_i64]; omega
    have e1 : ((i + 1 : Nat) : Int) = (i : Int) + 1 := by omega
    rw [walkL] at hw ⊢
    have hle := walkl_le m (walkF t acc)
    have h1 := hB t List.mem_cons_self acc (by omega)
    have hle0 := walk_le t acc
    by_cases hs : (walkF t acc).length = acc.length
    · have ih := wk_34ab0b l hb m (fun t ht => hB t (List.mem_cons_of_mem _ ht)) (i + 1) (walkF t acc) a3 hw
      rw [e1] at ih
      rw [if_pos hs] at h1
      rw [walk_same hs] at h1 ih ⊢
      refine Evl.of ?_
      rw [hp34ab0b, g34ab0b]
      by_cases hs2 : (walkL m acc).length = acc.length
      · rw [if_pos hs2] at ih
        rw [walkl_same hs2] at ih ⊢
        simp [a2, idxK_tys a1, h1, e0, ih]
      · rw [if_neg hs2] at ih
        simp [a2, idxK_tys a1, h1, e0, ih, hs2]
    · have ih := wk_34ab0d l hb m (fun t ht => hB t (List.mem_cons_of_mem _ ht)) (i + 1) (walkF t acc) a3 hw
      rw [e1] at ih
      rw [if_neg hs] at h1
      have hs2 : ¬ (walkL m (walkF t acc)).length = acc.length := by omega
      refine Evl.of ?_
      rw [hp34ab0b, g34ab0b]
      simp [a2, idxK_tys a1, h1, e0, ih, hs2]
theorem wk_34ab0a (l : List Ty) (hb : l.length ≤ 1000000) : ∀ (m : List Ty), (∀ t ∈ m, WalkA t ∧ WalkB t) → ∀ (i : Nat), l.drop i = m → (walkL m []).length ≤ 999999999 →
    ev (q34ab0a (iv (i : Int)) (iv l.length) (tys l)) = some (if walkL m [] = [] then (0, [.lit (.slice none 0 0)]) else (1, [ints (walkL m [])]))
  | [], hB, i, h, hw => by
    have hi := drop_nil h
    refine Evl.of ?_
    rw [h34ab0a, g34ab0a, walkL]
    simp [hi]
  | t :: m, hB, i, h, hw => by
    obtain ⟨a1, a2, a3⟩ := drop_cons h
    have e0 : IntKind.i64.wrap ((i : Int) + 1) = (i : Int) + 1 := by rw [IntKind.wrap_i64]; omega
    have e1 : ((i + 1 : Nat) : Int) = (i : Int) + 1 := by omega
    rw [walkL] at hw ⊢
    have hle := walkl_le m (walkF t [])
    have h1 := (hB t List.mem_cons_self).1 (by omega)
    by_cases hs : walkF t [] = []
    · rw [hs] at hw
      have ih := wk_34ab0a l hb m (fun t ht => hB t (List.mem_cons_of_mem _ ht)) (i + 1) a3 hw
      rw [e1] at ih
      rw [if_pos hs] at h1
      rw [hs]
      refine Evl.of ?_
      rw [h34ab0a, g34ab0a]
      by_cases hs2 : walkL m [] = []
      · rw [if_pos hs2] at ih
        simp [a2, idxK_tys a1, h1, e0, ih, hs2]
      · rw [if_neg hs2] at ih
        simp [a2, idxK_tys a1, h1, e0, ih, hs2]
    · have ih := wk_34ab0c l hb m (fun t ht => (hB t (List.mem_cons_of_mem _ ht)).2) (i + 1) (walkF t []) a3 hw
      rw [e1] at ih
      rw [if_neg hs] at h1
      have hs2 : ¬ walkL m (walkF t []) = [] := fun e => by
        rw [e] at hle
        exact hs (List.length_eq_zero_iff.1 (Nat.le_zero.1 hle))
      refine Evl.of ?_
      rw [h34ab0a, g34ab0a]
      simp [a2, idxK_tys a1, h1, e0, ih, hs2]
/-- A type of which no row is too long. -/
inductive Few : Ty → Prop
  | mk {k : Int} {s : ByteArray} {n : Int} {ks : List Ty} : ks.length ≤ 1000000 → (∀ t ∈ ks, Few t) → Few (.mk k s n ks)
theorem Few.len : ∀ {t : Ty}, Few t → t.kids.length ≤ 1000000
  | _, .mk h _ => h
theorem Few.kid : ∀ {t : Ty}, Few t → ∀ x ∈ t.kids, Few x
  | _, .mk _ h => h
theorem walk_b {t : Ty} (h : Few t) : WalkB t := by
  induction h with
  | @mk k s n ks hl hk ih =>
    intro acc hw
    have hk2 := wk_34ab0b ks hl ks ih 0
    have hk3 := wk_34ab0d ks hl ks ih 0
    have h0 := see_b (.mk k s n ks) acc
    rw [walkF] at hw ⊢
    have hle := walkl_le ks (seeF k n acc)
    have hle0 := see_le k n acc
    have h0 : ev (p35b (iv k) (sv s) (iv n) (tys ks) (ints acc)) = some (if (seeF k n acc).length = acc.length then 0 else 1, [ints (seeF k n acc)]) := h0 (by omega)
    simp only [Ty.kind, Ty.name, Ty.n, Ty.kids]
    simp only [Int.ofNat_zero, Int.natCast_zero] at hk2 hk3
    refine Evl.of ?_
    rw [hp34b, g34b]
    by_cases hs : (seeF k n acc).length = acc.length
    · rw [if_pos hs] at h0
      rw [see_same hs] at h0 hw ⊢
      have h1 := hk2 acc rfl hw
      by_cases hs2 : (walkL ks acc).length = acc.length
      · rw [if_pos hs2] at h1
        rw [walkl_same hs2] at h1 ⊢
        simp [h0, lenK_tys, h1]
      · rw [if_neg hs2] at h1
        simp [h0, lenK_tys, h1, hs2]
    · rw [if_neg hs] at h0
      have h1 := hk2 (seeF k n acc) rfl hw
      have hs3 : ¬ (walkL ks (seeF k n acc)).length = acc.length := by omega
      by_cases hs2 : (walkL ks (seeF k n acc)).length = (seeF k n acc).length
      · rw [if_pos hs2] at h1
        rw [walkl_same hs2] at h1 ⊢
        simp [h0, lenK_tys, h1, hs]
      · rw [if_neg hs2] at h1
        simp [h0, lenK_tys, h1, hs3]
theorem walk_a {t : Ty} (h : Few t) : WalkA t := by
  induction h with
  | @mk k s n ks hl hk ih =>
    intro hw
    have hk2 := wk_34ab0a ks hl ks (fun t ht => ⟨ih t ht, walk_b (hk t ht)⟩) 0
    have hk3 := wk_34ab0b ks hl ks (fun t ht => walk_b (hk t ht)) 0
    have h0 : ev (q35a (iv k) (sv s) (iv n) (tys ks)) = some (if seeF k n [] = [] then (0, [.lit (.slice none 0 0)]) else (1, [ints (seeF k n [])])) := see_a (.mk k s n ks)
    rw [walkF] at hw ⊢
    have hle := walkl_le ks (seeF k n [])
    simp only [Ty.kind, Ty.name, Ty.n, Ty.kids]
    simp only [Int.ofNat_zero, Int.natCast_zero] at hk2 hk3
    refine Evl.of ?_
    rw [h34a, g34a]
    by_cases hs : seeF k n [] = []
    · rw [if_pos hs] at h0
      rw [hs] at hw ⊢
      have h1 := hk2 rfl hw
      by_cases hs2 : walkL ks [] = []
      · rw [if_pos hs2] at h1
        simp [h0, lenK_tys, h1, hs2]
      · rw [if_neg hs2] at h1
        simp [h0, lenK_tys, h1, hs2]
    · rw [if_neg hs] at h0
      have h1 := hk3 (seeF k n []) rfl hw
      have hs3 : ¬ walkL ks (seeF k n []) = [] := fun e => by
        rw [e] at hle
        exact hs (List.length_eq_zero_iff.1 (Nat.le_zero.1 hle))
      by_cases hs2 : (walkL ks (seeF k n [])).length = (seeF k n []).length
      · rw [if_pos hs2] at h1
        rw [walkl_same hs2] at h1 hs3 ⊢
        simp [h0, lenK_tys, h1, hs3]
      · rw [if_neg hs2] at h1
        simp [h0, lenK_tys, h1, hs3]
def metsF (t : Ty) : List Int := walkF t []
theorem mets_ev {t : Ty} (h : Few t) (hw : (metsF t).length ≤ 999999999) : ev (q22w (iv t.kind) (sv t.name) (iv t.n) (tys t.kids)) = some (0, [ints (metsF t)]) := Evl.of (by
  have h1 := walk_a h hw
  have h2 : ev (q22 (iv t.kind) (sv t.name) (iv t.n) (tys t.kids)) = some (if walkF t [] = [] then (0, [.lit (.slice none 0 0)]) else (1, [ints (walkF t [])])) := Evl.of (by
    rw [h22, g22]
    by_cases hs : walkF t [] = []
    · rw [if_pos hs] at h1 ⊢
      simp [h1]
    · rw [if_neg hs] at h1 ⊢
      simp [h1])
  rw [h22w]
  show weakK (ev (q22 (iv t.kind) (sv t.name) (iv t.n) (tys t.kids))) = _
  rw [h2]
  unfold metsF
  by_cases hs : walkF t [] = []
  · rw [if_pos hs, hs]; rfl
  · rw [if_neg hs]; rfl)

section
variable {β : Type} {d : β} {k : PV → β}
theorem u_tys : Try.prog.underlying 25 = some (.slice 27) := by kernel_rfl
theorem sz_ty : szA Try.prog 27 = some 4 := by kernel_rfl
theorem by_ty : bytesA Try.prog 27 = some 56 := by kernel_rfl
theorem zero_tyA : zeroA Try.prog 27 = some (zT.map .pv) := by kernel_rfl
theorem zT_ns : NSL zT := fun p hp => by
  simp only [zT, List.mem_cons, List.not_mem_nil, or_false] at hp
  rcases hp with rfl | rfl | rfl | rfl <;> exact .lit _
/-- Types that are made, and zeros behind them. -/
def halfR (l : List Ty) (m : Nat) : List (List PV) := l.map Ty.cells ++ List.replicate m zT
theorem half_ns (l : List Ty) (m : Nat) : NS (.rows (halfR l m)) := .rows _ fun c hc p hp => by
  rcases List.mem_append.1 hc with hc | hc
  · obtain ⟨x, hx, rfl⟩ := List.mem_map.1 hc
    exact x.ns p hp
  · rw [List.eq_of_mem_replicate hc] at hp
    exact zT_ns p hp
theorem mkK_tys {n : Nat} (h : n ≤ 1000000) : mkK Try.prog d 25 (.pv (iv n)) k = k (.rows (halfR [] n)) := by
  refine theK_of (and_iff (fun w => ?_) (half_ns [] n))
  constructor
  · rintro ⟨e, sz, by_, zc, z, m, g1, g2, g3, g4, g5, g6, g7, g8, g9, g10, rfl, _⟩
    rw [u_tys] at g1
    cases g1
    rw [zero_tyA] at g4
    cases g4
    have hz : z = zT := by
      have : toPVs (zT.map AV.pv) = some zT := rfl
      rw [this] at g5; exact (Option.some.inj g5).symm
    have hm : m = n := by
      have : intV (.pv (iv n)) = some (n : Int) := rfl
      rw [this] at g8
      have := Option.some.inj g8
      omega
    rw [hz, hm]; rfl
  · rintro rfl
    exact ⟨27, 4, 56, zT.map .pv, zT, n, u_tys, sz_ty, by_ty, zero_tyA, rfl, by omega, rfl, rfl, by omega, by omega, rfl, nsP_of (half_ns [] n)⟩
theorem half_at (l : List Ty) (m : Nat) : (halfR l (m + 1))[l.length]? = some zT := by
  unfold halfR
  rw [List.getElem?_append_right (by simp)]
  simp
theorem half_set (l : List Ty) (m : Nat) (u : Ty) : (halfR l (m + 1)).set l.length u.cells = halfR (l ++ [u]) m := by
  unfold halfR
  rw [List.set_append_right _ _ (by simp)]
  simp [List.replicate_succ]
theorem half_end (l : List Ty) : PV.rows (halfR l 0) = tys l := by simp [halfR, tys]
theorem idxK_half {k : AV → β} (l : List Ty) (m : Nat) : idxK Try.prog d 25 (.pv (.rows (halfR l (m + 1)))) (.pv (.lit (.int .i64 (l.length : Int)))) k = k (.cptr [iv 0, sv ⟨#[]⟩, iv 0, .lit (.slice none 0 0)]) :=
  idxK_rows sl_tys (half_at l m) rfl zT_ns
theorem setK_half (l : List Ty) (m : Nat) (u : Ty) : setK d (.rows (halfR l (m + 1))) (.lit (.int .i64 (l.length : Int))) 0 [iv u.kind, sv u.name, iv u.n, tys u.kids] k = k (.rows (halfR (l ++ [u]) m)) := by
  have hlt : l.length < (halfR l (m + 1)).length := by simp [halfR]
  have hg : (halfR l (m + 1)).getD l.length [] = zT := by rw [List.getD_eq_getElem?_getD, half_at]; rfl
  have hs : setAt zT 0 [iv u.kind, sv u.name, iv u.n, tys u.kids] = u.cells := by rw [Ty.cells_eq]; rfl
  refine theK_of (and_iff (fun w => ?_) (half_ns _ m))
  constructor
  · rintro ⟨es, n, kd, g1, g2, g3, g4, g5, rfl, _⟩
    cases g1
    cases g2
    rw [Int.toNat_natCast, hg, hs, half_set]
  · rintro rfl
    refine ⟨_, _, _, rfl, rfl, by omega, by rw [Int.toNat_natCast]; exact hlt, ?_, ?_, nsP_of (half_ns _ m)⟩
    · rw [Int.toNat_natCast, hg]; exact Nat.le_refl 4
    · rw [Int.toNat_natCast, hg, hs, half_set]
end
@[simp] theorem Ty.kind_mk (k : Int) (s : ByteArray) (n : Int) (l : List Ty) : (Ty.mk k s n l).kind = k := rfl
@[simp] theorem Ty.name_mk (k : Int) (s : ByteArray) (n : Int) (l : List Ty) : (Ty.mk k s n l).name = s := rfl
@[simp] theorem Ty.n_mk (k : Int) (s : ByteArray) (n : Int) (l : List Ty) : (Ty.mk k s n l).n = n := rfl
@[simp] theorem Ty.kids_mk (k : Int) (s : ByteArray) (n : Int) (l : List Ty) : (Ty.mk k s n l).kids = l := rfl
/-- A type applied: itself, the steps, the parts. -/
def appF (b : Bd) : Nat → Ty → Int → Int → Option (Ty × Int × Int)
  | 0, _, _, _ => none
  | f + 1, t, st, pa => match headF f b t with
    | none => none
    | some u => if IntKind.i64.wrap (pa + 1) > 5000 then some (u, st, IntKind.i64.wrap (pa + 1))
      else if stepI st ≤ maxS then (if u.kids.length ≤ 1000000 then match appL (appF b f) u.kids (stepI st) (IntKind.i64.wrap (pa + 1)) with
        | none => none
        | some (ks, st', pa') => some (.mk u.kind u.name u.n ks, st', pa') else none)
      else some (u, stepI st, IntKind.i64.wrap (pa + 1))
where
  appL (g : Ty → Int → Int → Option (Ty × Int × Int)) : List Ty → Int → Int → Option (List Ty × Int × Int)
  | [], st, pa => some ([], st, pa)
  | t :: l, st, pa => match g t st pa with
    | none => none
    | some (u, st', pa') => match appL g l st' pa' with
      | none => none
      | some (r, st'', pa'') => some (u :: r, st'', pa'')
def AppB (s : St) (g : Ty → Int → Int → Option (Ty × Int × Int)) : Prop := ∀ (t u : Ty) (st pa st' pa' : Int), g t st pa = some (u, st', pa') →
  ev (q31b (iv t.kind) (sv t.name) (iv t.n) (tys t.kids) (iv s.fr) (iv st) (sbs s.b) (ints s.tr) (iv pa)) = some (0, [iv s.fr, iv st', sbs s.b, ints s.tr, iv pa', iv u.kind, sv u.name, iv u.n, tys u.kids])
theorem apl_b (s : St) {g : Ty → Int → Int → Option (Ty × Int × Int)} (hg : AppB s g) (l : List Ty) (hb : l.length ≤ 1000000) (A B C D : PV) : ∀ (m : List Ty) (done : List Ty) (r : List Ty) (st pa st' pa' : Int), l.drop done.length = m → appF.appL g m st pa = some (r, st', pa') →
    ev (q31bb0a (iv (done.length : Int)) (iv l.length) (tys l) (.rows (halfR done m.length)) (iv s.fr) (iv st) (sbs s.b) (ints s.tr) (iv pa) A B C D) =
      some (0, [tys (done ++ r), iv s.fr, iv st', sbs s.b, ints s.tr, iv pa', A, B, C, D, iv 0, sv ⟨#[]⟩, iv 0, .lit (.slice none 0 0)])
  | [], done, r, st, pa, st', pa', hd, h => by
    have hi := drop_nil hd
    rw [appF.appL] at h
    cases h
    have he := half_end done
    refine Evl.of ?_
    rw [h31bb0a, g31bb0a]
    simp [hi, he]
  | t :: m, done, r, st, pa, st', pa', hd, h => by
    obtain ⟨a1, a2, a3⟩ := drop_cons hd
    have e0 : IntKind.i64.wrap ((done.length : Int) + 1) = (done.length : Int) + 1 := by rw [IntKind.wrap_i64]; omega
    rw [appF.appL] at h
    cases hx : g t st pa with
    | none => rw [hx] at h; cases h
    | some q =>
      obtain ⟨u, st1, pa1⟩ := q
      rw [hx] at h
      simp only at h
      cases hy : appF.appL g m st1 pa1 with
      | none => rw [hy] at h; cases h
      | some q =>
        obtain ⟨r1, st2, pa2⟩ := q
        rw [hy] at h
        cases h
        have h1 := hg _ _ _ _ _ _ hx
        have ih := apl_b s hg l hb A B C D m (done ++ [u]) r1 st1 pa1 st' pa' (by rw [List.length_append]; exact a3) hy
        have e1 : (((done ++ [u]).length : Nat) : Int) = (done.length : Int) + 1 := by simp
        rw [e1, List.append_assoc, List.cons_append, List.nil_append] at ih
        have hx1 := fun k => idxK_half (d := Res.fail) (k := k) done m.length
        have hx2 := fun k => setK_half (d := Res.fail) (k := k) done m.length u
        refine Evl.of ?_
        rw [h31bb0a, g31bb0a]
        simp [a2, idxK_tys a1, h1, e0, hx1, hx2, ih]
theorem app_b (s : St) : ∀ (f : Nat), AppB s (appF s.b f)
  | 0 => fun t u st pa st' pa' h => by cases h
  | f + 1 => fun t u st pa st' pa' h => by
    have ih := app_b s f
    rw [appF] at h
    cases hh : headF f s.b t with
    | none => rw [hh] at h; cases h
    | some v =>
      rw [hh] at h
      simp only at h
      have h0 := head_b { s with st := st } hh
      have hs := step_b s st
      simp only at h0
      by_cases hp : IntKind.i64.wrap (pa + 1) > 5000
      · rw [if_pos hp] at h
        cases h
        refine Evl.of ?_
        rw [h31b, g31b]
        simp [h0, hp]
      · rw [if_neg hp] at h
        by_cases hm : stepI st ≤ maxS
        · rw [if_pos hm] at h
          by_cases hk : v.kids.length ≤ 1000000
          · rw [if_pos hk] at h
            cases hy : appF.appL (appF s.b f) v.kids (stepI st) (IntKind.i64.wrap (pa + 1)) with
            | none => rw [hy] at h; cases h
            | some q =>
              obtain ⟨r1, st2, pa2⟩ := q
              rw [hy] at h
              cases h
              have h1 := apl_b s ih v.kids hk (iv v.kind) (sv v.name) (iv v.n) (tys v.kids) v.kids [] r1 _ _ _ _ rfl hy
              have h2 := fun k => mkK_tys (d := Res.fail) (k := k) hk
              simp only [List.length_nil, Int.ofNat_zero, Int.natCast_zero, List.nil_append] at h1
              refine Evl.of ?_
              rw [h31b, g31b]
              simp [h0, hp, hs, hm, lenK_tys, h2, h1]
          · rw [if_neg hk] at h; cases h
        · rw [if_neg hm] at h
          cases h
          refine Evl.of ?_
          rw [h31b, g31b]
          simp [h0, hp, hs, hm]
/-- A type wholly applied, if it has not too many parts, and the steps. -/
def applyF (b : Bd) (f : Nat) (t : Ty) (st : Int) : Option (Option (Ty × Int)) := match appF b f t st 0 with
  | none => none
  | some (u, st', pa') => if pa' > 5000 ∨ st' > maxS then some none else some (some (u, st'))
theorem apply_ok (s : St) {f : Nat} {t u : Ty} {st st' : Int} (h : applyF s.b f t st = some (some (u, st'))) :
    ev (q15b (iv t.kind) (sv t.name) (iv t.n) (tys t.kids) (iv s.fr) (iv st) (sbs s.b) (ints s.tr)) = some (0, [iv s.fr, iv st', sbs s.b, ints s.tr, iv u.kind, sv u.name, iv u.n, tys u.kids, iv 0]) := Evl.of (by
  unfold applyF at h
  cases hy : appF s.b f t st 0 with
  | none => rw [hy] at h; cases h
  | some q =>
    obtain ⟨v, st1, pa1⟩ := q
    rw [hy] at h
    simp only at h
    have h1 := app_b s f _ _ _ _ _ _ hy
    split at h
    · cases h
    · rename_i hc
      cases h
      have c1 : ¬ pa1 > 5000 := fun e => hc (.inl e)
      have c2 : ¬ st' > 1048576 := fun e => hc (.inr e)
      rw [h15b, g15b]
      simp [h1, c1, c2])
theorem apply_no (s : St) {f : Nat} {t : Ty} {st : Int} (h : applyF s.b f t st = some none) :
    ev (q15b (iv t.kind) (sv t.name) (iv t.n) (tys t.kids) (iv s.fr) (iv st) (sbs s.b) (ints s.tr)) = some (0, [iv s.fr, iv 1048577, sbs s.b, ints s.tr, iv 0, sv ⟨#[]⟩, iv 0, .lit (.slice none 0 0), iv 3]) := Evl.of (by
  unfold applyF at h
  cases hy : appF s.b f t st 0 with
  | none => rw [hy] at h; cases h
  | some q =>
    obtain ⟨v, st1, pa1⟩ := q
    rw [hy] at h
    simp only at h
    have h1 := app_b s f _ _ _ _ _ _ hy
    split at h
    · rename_i hc
      rw [h15b, g15b]
      by_cases c1 : pa1 > 5000
      · simp [h1, c1]
      · have c2 : st1 > 1048576 := hc.resolve_left c1
        simp [h1, c1, c2]
    · cases h)

theorem meta_len {f : Nat} {a b : Ty} {s s' : St} {r : Bool} (hl : s.tr.length ≤ 1000000001) (h : metaF f a b s = some (r, s')) : s'.tr.length ≤ 1000000001 := by
  rcases meta_out h with ⟨_, _, _, rfl⟩ | ⟨_, st, _, _, rfl⟩ | ⟨_, st, _, hl, _, rfl⟩
  · exact hl
  · exact hl
  · simp [St.bind]; exact hl
theorem kids_len {g : Ty → Ty → St → Option (Bool × St)} (hg : ∀ x y s s' r, s.tr.length ≤ 1000000001 → g x y s = some (r, s') → s'.tr.length ≤ 1000000001) : ∀ (l m : List Ty) (s s' : St) (r : Bool), s.tr.length ≤ 1000000001 → kidsF g l m s = some (r, s') → s'.tr.length ≤ 1000000001
  | [], _, s, s', r, hl, h => by simp [kidsF] at h; rw [← h.2]; exact hl
  | _ :: _, [], s, s', r, hl, h => by simp [kidsF] at h; rw [← h.2]; exact hl
  | x :: l, y :: m, s, s', r, hl, h => by
    rw [kidsF] at h
    cases hx : g x y s with
    | none => rw [hx] at h; cases h
    | some q =>
      obtain ⟨r0, s0⟩ := q
      rw [hx] at h
      cases r0 with
      | true => exact kids_len hg l m s0 s' r (hg _ _ _ _ _ hl hx) h
      | false => cases h; exact hg _ _ _ _ _ hl hx
theorem unif_len : ∀ (f : Nat) (x y : Ty) (s s' : St) (r : Bool), s.tr.length ≤ 1000000001 → unifF f x y s = some (r, s') → s'.tr.length ≤ 1000000001
  | 0, x, y, s, s', r, hl, h => by cases h
  | f + 1, x, y, s, s', r, hl, h => by
    have hs : s.step.tr.length ≤ 1000000001 := hl
    rw [unifF] at h
    split at h
    · split at h
      · split at h
        · exact meta_len hs h
        · split at h
          · exact meta_len hs h
          · split at h
            · split at h
              · split at h
                · exact kids_len (fun x y s s' r hl h => unif_len f x y s s' r hl h) _ _ _ _ _ hs h
                · cases h
              · cases h; exact hs
            · cases h; exact hs
      · cases h; exact hs
    · cases h
/-! Rows of numbers behind one another. -/
section
theorem ivs_nil {l : List Int} (h : ¬ l = []) : ¬ ivs l = [] := by cases l with
  | nil => exact absurd rfl h
  | cons => simp [ivs]
theorem aq_ints {k : PV → Res} {a b : List Int} (h : ¬ b = []) (hl : a.length + b.length ≤ 1000000000) : appK Try.prog .fail 55 (.pv (ints a)) (.pv (ints b)) k = k (ints (a ++ b)) := by
  refine appK_of (fun w => ?_) (ns_ints _)
  rw [app_ok sl_ints (es := ivs a) (es' := ivs b) rfl rfl (ivs_nil h) (by simp [ivs]) (by simp [ivs]; omega) (by simp [ivs]; omega)]
  rw [ints, ivs, ivs, ivs, List.map_append]
theorem aq_nil {k : PV → Res} {b : List Int} (h : ¬ b = []) (hl : b.length ≤ 1000000000) : appK Try.prog .fail 55 (.pv (.lit (.slice none 0 0))) (.pv (ints b)) k = k (ints b) := by
  refine appK_of (fun w => ?_) (ns_ints _)
  rw [app_ok sl_ints (es := []) (es' := ivs b) rfl rfl (ivs_nil h) (by simp [ivs]) (by simp [ivs]; omega) (by simp [ivs]; omega)]
  exact Iff.rfl
theorem aq_none {k : PV → Res} {s : AV} : appK Try.prog .fail 55 s (.pv (ints [])) k = .fail := by
  unfold appK theK
  rw [dif_neg]
  rintro ⟨w, ⟨e, sz, by_, zc, es, es', _, _, _, _, _, _, _, h2, h3, _⟩, _⟩
  cases h2
  exact h3 rfl
theorem p0_no {k : Res} {s : AV} {b : List Int} (h : ¬ b = []) : app0K Try.prog .fail 55 s (.pv (ints b)) k = .fail := by
  unfold app0K
  rw [if_neg]
  rintro ⟨e, sz, by_, zc, _, _, _, _, _, h2⟩
  have : rowsN (.pv (ints b)) = some (ivs b) := rfl
  rw [this] at h2
  exact ivs_nil h (Option.some.inj h2)
theorem p0_yes {k : Res} {a : List Int} : app0K Try.prog .fail 55 (.pv (ints a)) (.pv (ints [])) k = k := by
  obtain ⟨⟨e, zc, h1, h2, h3, h4, h5⟩, h6⟩ := sl_ints
  exact app0K_of ⟨e, 1, 8, zc, h1, h2, h3, h4, rfl, rfl⟩
theorem p0_nil {k : Res} : app0K Try.prog .fail 55 (.pv (.lit (.slice none 0 0))) (.pv (ints [])) k = k := by
  obtain ⟨⟨e, zc, h1, h2, h3, h4, h5⟩, h6⟩ := sl_ints
  exact app0K_of ⟨e, 1, 8, zc, h1, h2, h3, h4, rfl, rfl⟩
end
/-- Pair by pair: the first that fails, or the last state and all metas. -/
def slvF (f : Nat) : Nat → List Pr → St → List Int → Option (Nat × Int ⊕ St × List Int)
  | _, [], s, ms => some (.inr (s, ms))
  | i, p :: l, s, ms => match unifF f p.a p.b s with
    | none => none
    | some (r, s') => if uniE r s' = 0 then slvF f (i + 1) l s' (ms ++ metsF p.a ++ metsF p.b) else some (.inl (i, uniE r s'))
def nilS : PV := .lit (.slice none 0 0)
def q7L (i len : Int) (l : List Pr) (s : St) (ms : List Int) : Q :=
  if s.tr = [] then (if ms = [] then q7b0a (iv i) (iv len) (prs l) (iv s.st) (sbs s.b) else q7b0b (iv i) (iv len) (prs l) (iv s.st) (sbs s.b) (ints ms))
  else if ms = [] then q7b0d (iv i) (iv len) (prs l) (iv s.st) (sbs s.b) (ints s.tr) else q7b0c (iv i) (iv len) (prs l) (iv s.st) (sbs s.b) (ints s.tr) (ints ms)
def out7 (s : St) (ms : List Int) : Rs :=
  if s.tr = [] then (if ms = [] then (2, [nilS, iv 0, iv s.st, sbs s.b, nilS]) else (3, [nilS, iv 0, iv s.st, sbs s.b, ints ms]))
  else if ms = [] then (5, [iv 0, iv s.st, sbs s.b, ints s.tr, nilS]) else (4, [iv 0, iv s.st, sbs s.b, ints s.tr, ints ms])
def Out7 (R : Rs) : Nat × Int ⊕ St × List Int → Prop
  | .inl (i, c) => ∃ st m t, R = (0, [nilS, iv 0, st, m, nilS, iv (i : Int), iv c]) ∨ R = (1, [iv 0, st, m, t, nilS, iv (i : Int), iv c])
  | .inr (s, ms) => R = out7 s ms
structure GoodP (p : Pr) : Prop where
  a : Few p.a
  b : Few p.b
  la : (metsF p.a).length ≤ 1000
  lb : (metsF p.b).length ≤ 1000
theorem slv_ev (f : Nat) (l : List Pr) (hb : l.length ≤ 1000) (hg : ∀ p ∈ l, GoodP p) : ∀ (m : List Pr) (i : Nat) (s : St) (ms : List Int) (ans : Nat × Int ⊕ St × List Int), l.drop i = m → s.fr = 0 → s.tr.length ≤ 1000000001 → ms.length ≤ 2000 * i →
    slvF f i m s ms = some ans → ∃ R, ev (q7L (i : Int) l.length l s ms) = some R ∧ Out7 R ans
  | [], i, s, ms, ans, hd, h0, ht, hm, h => by
    have hi := drop_nil hd
    rw [slvF] at h
    cases h
    refine ⟨out7 s ms, ?_, rfl⟩
    unfold q7L out7
    by_cases c1 : s.tr = []
    · by_cases c2 : ms = []
      · rw [if_pos c1, if_pos c2, if_pos c1, if_pos c2]
        refine Evl.of ?_
        rw [h7b0a, g7b0a]
        simp [hi, nilS]
      · rw [if_pos c1, if_neg c2, if_pos c1, if_neg c2]
        refine Evl.of ?_
        rw [h7b0b, g7b0b]
        simp [hi, nilS]
    · by_cases c2 : ms = []
      · rw [if_neg c1, if_pos c2, if_neg c1, if_pos c2]
        refine Evl.of ?_
        rw [h7b0d, g7b0d]
        simp [hi, nilS]
      · rw [if_neg c1, if_neg c2, if_neg c1, if_neg c2]
        refine Evl.of ?_
        rw [h7b0c, g7b0c]
        simp [hi]
  | p :: m, i, s, ms, ans, hd, h0, ht, hm, h => by
    obtain ⟨a1, a2, a3⟩ := drop_cons hd
    have hin : i < l.length := by omega
    have e0 : IntKind.i64.wrap ((i : Int) + 1) = (i : Int) + 1 := by rw [IntKind.wrap_i64]; omega
    have e1 : ((i + 1 : Nat) : Int) = (i : Int) + 1 := by omega
    obtain ⟨g1, g2, g3, g4⟩ := hg p (List.mem_of_getElem? a1)
    have hA := mets_ev g1 (by omega)
    have hB := mets_ev g2 (by omega)
    rw [slvF] at h
    cases hx : unifF f p.a p.b s with
    | none => rw [hx] at h; cases h
    | some q =>
      obtain ⟨r, s'⟩ := q
      rw [hx] at h
      simp only at h
      have hlen := unif_len f _ _ _ _ _ ht hx
      have hext := unif_ext f _ _ _ _ _ hx
      have h0' : s'.fr = 0 := hext.fr.trans h0
      obtain ⟨tl, htl⟩ := hext.tr
      by_cases hc : uniE r s' = 0
      · rw [if_pos hc] at h
        obtain ⟨R, hR, hO⟩ := slv_ev f l hb hg m (i + 1) s' (ms ++ metsF p.a ++ metsF p.b) ans a3 h0' hlen (by rw [List.length_append, List.length_append]; omega) h
        refine ⟨R, ?_, hO⟩
        rw [e1] at hR
        unfold q7L at hR ⊢
        generalize metsF p.a = A at *
        generalize metsF p.b = B at *
        generalize hN : uniE r s' = N at *
        subst hc
        by_cases c1 : s.tr = []
        · by_cases c2 : ms = []
          · rw [if_pos c1, if_pos c2]
            obtain ⟨mm, tt, hmt, hu⟩ := uny_a c1 hlen hx
            rw [hN] at hmt hu
            obtain ⟨rfl, rfl⟩ := hmt rfl
            rw [h0, h0'] at hu
            refine Evl.of ?_
            rw [h7b0a, g7b0a]
            subst c2
            by_cases ht' : s'.tr = []
            · rw [if_pos ht'] at hu hR
              by_cases cA : A = []
              · by_cases cB : B = []
                · subst cA
                  subst cB
                  simp [ht'] at hR ⊢
                  simp [hin, a2, idxK_prs a1, e0, hu, hA, hB, aq_none, p0_yes, p0_nil, hR, ht']
                · subst cA
                  have k4 := fun (k : PV → Res) (a : List Int) (h : a.length ≤ 900000000) => aq_ints (k := k) (a := a) cB (by omega)
                  have k5 := fun (k : PV → Res) => aq_nil (k := k) cB (by omega)
                  have k6 := fun (k : Res) (s : AV) => p0_no (k := k) (s := s) cB
                  simp [ht', cB] at hR ⊢
                  simp [hin, a2, idxK_prs a1, e0, hu, hA, hB, aq_none, p0_yes, p0_nil, hR, ht', k5, k6, cB]
              · by_cases cB : B = []
                · subst cB
                  have k1 := fun (k : PV → Res) (a : List Int) (h : a.length ≤ 900000000) => aq_ints (k := k) (a := a) cA (by omega)
                  have k2 := fun (k : PV → Res) => aq_nil (k := k) cA (by omega)
                  have k3 := fun (k : Res) (s : AV) => p0_no (k := k) (s := s) cA
                  simp [ht', cA] at hR ⊢
                  simp [hin, a2, idxK_prs a1, e0, hu, hA, hB, aq_none, p0_yes, p0_nil, hR, ht', k2, k3, cA]
                · have k1 := fun (k : PV → Res) (a : List Int) (h : a.length ≤ 900000000) => aq_ints (k := k) (a := a) cA (by omega)
                  have k2 := fun (k : PV → Res) => aq_nil (k := k) cA (by omega)
                  have k3 := fun (k : Res) (s : AV) => p0_no (k := k) (s := s) cA
                  have k4 := fun (k : PV → Res) (a : List Int) (h : a.length ≤ 900000000) => aq_ints (k := k) (a := a) cB (by omega)
                  have k5 := fun (k : PV → Res) => aq_nil (k := k) cB (by omega)
                  have k6 := fun (k : Res) (s : AV) => p0_no (k := k) (s := s) cB
                  have k4 := fun k => k4 k A (by omega)
                  simp [ht', cA, cB] at hR ⊢
                  simp [hin, a2, idxK_prs a1, e0, hu, hA, hB, aq_none, p0_yes, p0_nil, hR, ht', k2, k3, cA, k5, k6, cB, k4]
            · rw [if_neg ht'] at hu hR
              by_cases cA : A = []
              · by_cases cB : B = []
                · subst cA
                  subst cB
                  simp [ht'] at hR ⊢
                  simp [hin, a2, idxK_prs a1, e0, hu, hA, hB, aq_none, p0_yes, p0_nil, hR, ht']
                · subst cA
                  have k4 := fun (k : PV → Res) (a : List Int) (h : a.length ≤ 900000000) => aq_ints (k := k) (a := a) cB (by omega)
                  have k5 := fun (k : PV → Res) => aq_nil (k := k) cB (by omega)
                  have k6 := fun (k : Res) (s : AV) => p0_no (k := k) (s := s) cB
                  simp [ht', cB] at hR ⊢
                  simp [hin, a2, idxK_prs a1, e0, hu, hA, hB, aq_none, p0_yes, p0_nil, hR, ht', k5, k6, cB]
              · by_cases cB : B = []
                · subst cB
                  have k1 := fun (k : PV → Res) (a : List Int) (h : a.length ≤ 900000000) => aq_ints (k := k) (a := a) cA (by omega)
                  have k2 := fun (k : PV → Res) => aq_nil (k := k) cA (by omega)
                  have k3 := fun (k : Res) (s : AV) => p0_no (k := k) (s := s) cA
                  simp [ht', cA] at hR ⊢
                  simp [hin, a2, idxK_prs a1, e0, hu, hA, hB, aq_none, p0_yes, p0_nil, hR, ht', k2, k3, cA]
                · have k1 := fun (k : PV → Res) (a : List Int) (h : a.length ≤ 900000000) => aq_ints (k := k) (a := a) cA (by omega)
                  have k2 := fun (k : PV → Res) => aq_nil (k := k) cA (by omega)
                  have k3 := fun (k : Res) (s : AV) => p0_no (k := k) (s := s) cA
                  have k4 := fun (k : PV → Res) (a : List Int) (h : a.length ≤ 900000000) => aq_ints (k := k) (a := a) cB (by omega)
                  have k5 := fun (k : PV → Res) => aq_nil (k := k) cB (by omega)
                  have k6 := fun (k : Res) (s : AV) => p0_no (k := k) (s := s) cB
                  have k4 := fun k => k4 k A (by omega)
                  simp [ht', cA, cB] at hR ⊢
                  simp [hin, a2, idxK_prs a1, e0, hu, hA, hB, aq_none, p0_yes, p0_nil, hR, ht', k2, k3, cA, k5, k6, cB, k4]
          · rw [if_pos c1, if_neg c2]
            obtain ⟨mm, tt, hmt, hu⟩ := uny_a c1 hlen hx
            rw [hN] at hmt hu
            obtain ⟨rfl, rfl⟩ := hmt rfl
            rw [h0, h0'] at hu
            refine Evl.of ?_
            rw [h7b0b, g7b0b]
            by_cases ht' : s'.tr = []
            · rw [if_pos ht'] at hu hR
              by_cases cA : A = []
              · by_cases cB : B = []
                · subst cA
                  subst cB
                  have hm0 : ms.length ≤ 900000000 := by omega
                  simp [ht', c2] at hR ⊢
                  simp [hin, a2, idxK_prs a1, e0, hu, hA, hB, aq_none, p0_yes, p0_nil, hR, ht', hm0, c2]
                · subst cA
                  have k4 := fun (k : PV → Res) (a : List Int) (h : a.length ≤ 900000000) => aq_ints (k := k) (a := a) cB (by omega)
                  have k5 := fun (k : PV → Res) => aq_nil (k := k) cB (by omega)
                  have k6 := fun (k : Res) (s : AV) => p0_no (k := k) (s := s) cB
                  have hm0 : ms.length ≤ 900000000 := by omega
                  have k4 := fun k => k4 k ms hm0
                  simp [ht', c2, cB] at hR ⊢
                  simp [hin, a2, idxK_prs a1, e0, hu, hA, hB, aq_none, p0_yes, p0_nil, hR, ht', hm0, c2, k5, k6, cB, k4]
              · by_cases cB : B = []
                · subst cB
                  have k1 := fun (k : PV → Res) (a : List Int) (h : a.length ≤ 900000000) => aq_ints (k := k) (a := a) cA (by omega)
                  have k2 := fun (k : PV → Res) => aq_nil (k := k) cA (by omega)
                  have k3 := fun (k : Res) (s : AV) => p0_no (k := k) (s := s) cA
                  have hm0 : ms.length ≤ 900000000 := by omega
                  have k1 := fun k => k1 k ms hm0
                  simp [ht', c2, cA] at hR ⊢
                  simp [hin, a2, idxK_prs a1, e0, hu, hA, hB, aq_none, p0_yes, p0_nil, hR, ht', hm0, c2, k2, k3, cA, k1]
                · have k1 := fun (k : PV → Res) (a : List Int) (h : a.length ≤ 900000000) => aq_ints (k := k) (a := a) cA (by omega)
                  have k2 := fun (k : PV → Res) => aq_nil (k := k) cA (by omega)
                  have k3 := fun (k : Res) (s : AV) => p0_no (k := k) (s := s) cA
                  have k4 := fun (k : PV → Res) (a : List Int) (h : a.length ≤ 900000000) => aq_ints (k := k) (a := a) cB (by omega)
                  have k5 := fun (k : PV → Res) => aq_nil (k := k) cB (by omega)
                  have k6 := fun (k : Res) (s : AV) => p0_no (k := k) (s := s) cB
                  have hm0 : ms.length ≤ 900000000 := by omega
                  have k1 := fun k => k1 k ms hm0
                  have k4 := fun k => k4 k (ms ++ A) (by rw [List.length_append]; omega)
                  simp [ht', c2, cA, cB] at hR ⊢
                  simp [hin, a2, idxK_prs a1, e0, hu, hA, hB, aq_none, p0_yes, p0_nil, hR, ht', hm0, c2, k2, k3, cA, k1, k5, k6, cB, k4]
            · rw [if_neg ht'] at hu hR
              by_cases cA : A = []
              · by_cases cB : B = []
                · subst cA
                  subst cB
                  have hm0 : ms.length ≤ 900000000 := by omega
                  simp [ht', c2] at hR ⊢
                  simp [hin, a2, idxK_prs a1, e0, hu, hA, hB, aq_none, p0_yes, p0_nil, hR, ht', hm0, c2]
                · subst cA
                  have k4 := fun (k : PV → Res) (a : List Int) (h : a.length ≤ 900000000) => aq_ints (k := k) (a := a) cB (by omega)
                  have k5 := fun (k : PV → Res) => aq_nil (k := k) cB (by omega)
                  have k6 := fun (k : Res) (s : AV) => p0_no (k := k) (s := s) cB
                  have hm0 : ms.length ≤ 900000000 := by omega
                  have k4 := fun k => k4 k ms hm0
                  simp [ht', c2, cB] at hR ⊢
                  simp [hin, a2, idxK_prs a1, e0, hu, hA, hB, aq_none, p0_yes, p0_nil, hR, ht', hm0, c2, k5, k6, cB, k4]
              · by_cases cB : B = []
                · subst cB
                  have k1 := fun (k : PV → Res) (a : List Int) (h : a.length ≤ 900000000) => aq_ints (k := k) (a := a) cA (by omega)
                  have k2 := fun (k : PV → Res) => aq_nil (k := k) cA (by omega)
                  have k3 := fun (k : Res) (s : AV) => p0_no (k := k) (s := s) cA
                  have hm0 : ms.length ≤ 900000000 := by omega
                  have k1 := fun k => k1 k ms hm0
                  simp [ht', c2, cA] at hR ⊢
                  simp [hin, a2, idxK_prs a1, e0, hu, hA, hB, aq_none, p0_yes, p0_nil, hR, ht', hm0, c2, k2, k3, cA, k1]
                · have k1 := fun (k : PV → Res) (a : List Int) (h : a.length ≤ 900000000) => aq_ints (k := k) (a := a) cA (by omega)
                  have k2 := fun (k : PV → Res) => aq_nil (k := k) cA (by omega)
                  have k3 := fun (k : Res) (s : AV) => p0_no (k := k) (s := s) cA
                  have k4 := fun (k : PV → Res) (a : List Int) (h : a.length ≤ 900000000) => aq_ints (k := k) (a := a) cB (by omega)
                  have k5 := fun (k : PV → Res) => aq_nil (k := k) cB (by omega)
                  have k6 := fun (k : Res) (s : AV) => p0_no (k := k) (s := s) cB
                  have hm0 : ms.length ≤ 900000000 := by omega
                  have k1 := fun k => k1 k ms hm0
                  have k4 := fun k => k4 k (ms ++ A) (by rw [List.length_append]; omega)
                  simp [ht', c2, cA, cB] at hR ⊢
                  simp [hin, a2, idxK_prs a1, e0, hu, hA, hB, aq_none, p0_yes, p0_nil, hR, ht', hm0, c2, k2, k3, cA, k1, k5, k6, cB, k4]
        · by_cases c2 : ms = []
          · rw [if_neg c1, if_pos c2]
            obtain ⟨mm, tt, hmt, htt, hu⟩ := uny_b hlen hx
            rw [hN] at hmt hu
            obtain ⟨rfl, rfl⟩ := hmt rfl
            rw [h0, h0'] at hu
            refine Evl.of ?_
            rw [h7b0d, g7b0d]
            subst c2
            have ht' : ¬ s'.tr = [] := by rw [htl]; simp [c1]
            rw [if_neg ht'] at hR
            by_cases hch : s'.tr.length = s.tr.length
            · have hsame : s'.tr = s.tr := by rw [htl] at hch; simp at hch; rw [htl, hch]; simp
              rw [if_pos ⟨hch, by decide⟩, hsame] at hu
              rw [hsame] at hR
              by_cases cA : A = []
              · by_cases cB : B = []
                · subst cA
                  subst cB
                  simp [] at hR ⊢
                  simp [hin, a2, idxK_prs a1, e0, hu, hA, hB, aq_none, p0_yes, p0_nil, hR]
                · subst cA
                  have k4 := fun (k : PV → Res) (a : List Int) (h : a.length ≤ 900000000) => aq_ints (k := k) (a := a) cB (by omega)
                  have k5 := fun (k : PV → Res) => aq_nil (k := k) cB (by omega)
                  have k6 := fun (k : Res) (s : AV) => p0_no (k := k) (s := s) cB
                  simp [cB] at hR ⊢
                  simp [hin, a2, idxK_prs a1, e0, hu, hA, hB, aq_none, p0_yes, p0_nil, hR, k5, k6, cB]
              · by_cases cB : B = []
                · subst cB
                  have k1 := fun (k : PV → Res) (a : List Int) (h : a.length ≤ 900000000) => aq_ints (k := k) (a := a) cA (by omega)
                  have k2 := fun (k : PV → Res) => aq_nil (k := k) cA (by omega)
                  have k3 := fun (k : Res) (s : AV) => p0_no (k := k) (s := s) cA
                  simp [cA] at hR ⊢
                  simp [hin, a2, idxK_prs a1, e0, hu, hA, hB, aq_none, p0_yes, p0_nil, hR, k2, k3, cA]
                · have k1 := fun (k : PV → Res) (a : List Int) (h : a.length ≤ 900000000) => aq_ints (k := k) (a := a) cA (by omega)
                  have k2 := fun (k : PV → Res) => aq_nil (k := k) cA (by omega)
                  have k3 := fun (k : Res) (s : AV) => p0_no (k := k) (s := s) cA
                  have k4 := fun (k : PV → Res) (a : List Int) (h : a.length ≤ 900000000) => aq_ints (k := k) (a := a) cB (by omega)
                  have k5 := fun (k : PV → Res) => aq_nil (k := k) cB (by omega)
                  have k6 := fun (k : Res) (s : AV) => p0_no (k := k) (s := s) cB
                  have k4 := fun k => k4 k A (by omega)
                  simp [cA, cB] at hR ⊢
                  simp [hin, a2, idxK_prs a1, e0, hu, hA, hB, aq_none, p0_yes, p0_nil, hR, k2, k3, cA, k5, k6, cB, k4]
            · rw [if_neg (fun e => hch e.1)] at hu
              by_cases cA : A = []
              · by_cases cB : B = []
                · subst cA
                  subst cB
                  simp [] at hR ⊢
                  simp [hin, a2, idxK_prs a1, e0, hu, hA, hB, aq_none, p0_yes, p0_nil, hR]
                · subst cA
                  have k4 := fun (k : PV → Res) (a : List Int) (h : a.length ≤ 900000000) => aq_ints (k := k) (a := a) cB (by omega)
                  have k5 := fun (k : PV → Res) => aq_nil (k := k) cB (by omega)
                  have k6 := fun (k : Res) (s : AV) => p0_no (k := k) (s := s) cB
                  simp [cB] at hR ⊢
                  simp [hin, a2, idxK_prs a1, e0, hu, hA, hB, aq_none, p0_yes, p0_nil, hR, k5, k6, cB]
              · by_cases cB : B = []
                · subst cB
                  have k1 := fun (k : PV → Res) (a : List Int) (h : a.length ≤ 900000000) => aq_ints (k := k) (a := a) cA (by omega)
                  have k2 := fun (k : PV → Res) => aq_nil (k := k) cA (by omega)
                  have k3 := fun (k : Res) (s : AV) => p0_no (k := k) (s := s) cA
                  simp [cA] at hR ⊢
                  simp [hin, a2, idxK_prs a1, e0, hu, hA, hB, aq_none, p0_yes, p0_nil, hR, k2, k3, cA]
                · have k1 := fun (k : PV → Res) (a : List Int) (h : a.length ≤ 900000000) => aq_ints (k := k) (a := a) cA (by omega)
                  have k2 := fun (k : PV → Res) => aq_nil (k := k) cA (by omega)
                  have k3 := fun (k : Res) (s : AV) => p0_no (k := k) (s := s) cA
                  have k4 := fun (k : PV → Res) (a : List Int) (h : a.length ≤ 900000000) => aq_ints (k := k) (a := a) cB (by omega)
                  have k5 := fun (k : PV → Res) => aq_nil (k := k) cB (by omega)
                  have k6 := fun (k : Res) (s : AV) => p0_no (k := k) (s := s) cB
                  have k4 := fun k => k4 k A (by omega)
                  simp [cA, cB] at hR ⊢
                  simp [hin, a2, idxK_prs a1, e0, hu, hA, hB, aq_none, p0_yes, p0_nil, hR, k2, k3, cA, k5, k6, cB, k4]
          · rw [if_neg c1, if_neg c2]
            obtain ⟨mm, tt, hmt, htt, hu⟩ := uny_b hlen hx
            rw [hN] at hmt hu
            obtain ⟨rfl, rfl⟩ := hmt rfl
            rw [h0, h0'] at hu
            refine Evl.of ?_
            rw [h7b0c, g7b0c]
            have ht' : ¬ s'.tr = [] := by rw [htl]; simp [c1]
            rw [if_neg ht'] at hR
            by_cases hch : s'.tr.length = s.tr.length
            · have hsame : s'.tr = s.tr := by rw [htl] at hch; simp at hch; rw [htl, hch]; simp
              rw [if_pos ⟨hch, by decide⟩, hsame] at hu
              rw [hsame] at hR
              by_cases cA : A = []
              · by_cases cB : B = []
                · subst cA
                  subst cB
                  have hm0 : ms.length ≤ 900000000 := by omega
                  simp [c2] at hR ⊢
                  simp [hin, a2, idxK_prs a1, e0, hu, hA, hB, aq_none, p0_yes, p0_nil, hR, hm0, c2]
                · subst cA
                  have k4 := fun (k : PV → Res) (a : List Int) (h : a.length ≤ 900000000) => aq_ints (k := k) (a := a) cB (by omega)
                  have k5 := fun (k : PV → Res) => aq_nil (k := k) cB (by omega)
                  have k6 := fun (k : Res) (s : AV) => p0_no (k := k) (s := s) cB
                  have hm0 : ms.length ≤ 900000000 := by omega
                  have k4 := fun k => k4 k ms hm0
                  simp [c2, cB] at hR ⊢
                  simp [hin, a2, idxK_prs a1, e0, hu, hA, hB, aq_none, p0_yes, p0_nil, hR, hm0, c2, k5, k6, cB, k4]
              · by_cases cB : B = []
                · subst cB
                  have k1 := fun (k : PV → Res) (a : List Int) (h : a.length ≤ 900000000) => aq_ints (k := k) (a := a) cA (by omega)
                  have k2 := fun (k : PV → Res) => aq_nil (k := k) cA (by omega)
                  have k3 := fun (k : Res) (s : AV) => p0_no (k := k) (s := s) cA
                  have hm0 : ms.length ≤ 900000000 := by omega
                  have k1 := fun k => k1 k ms hm0
                  simp [c2, cA] at hR ⊢
                  simp [hin, a2, idxK_prs a1, e0, hu, hA, hB, aq_none, p0_yes, p0_nil, hR, hm0, c2, k2, k3, cA, k1]
                · have k1 := fun (k : PV → Res) (a : List Int) (h : a.length ≤ 900000000) => aq_ints (k := k) (a := a) cA (by omega)
                  have k2 := fun (k : PV → Res) => aq_nil (k := k) cA (by omega)
                  have k3 := fun (k : Res) (s : AV) => p0_no (k := k) (s := s) cA
                  have k4 := fun (k : PV → Res) (a : List Int) (h : a.length ≤ 900000000) => aq_ints (k := k) (a := a) cB (by omega)
                  have k5 := fun (k : PV → Res) => aq_nil (k := k) cB (by omega)
                  have k6 := fun (k : Res) (s : AV) => p0_no (k := k) (s := s) cB
                  have hm0 : ms.length ≤ 900000000 := by omega
                  have k1 := fun k => k1 k ms hm0
                  have k4 := fun k => k4 k (ms ++ A) (by rw [List.length_append]; omega)
                  simp [c2, cA, cB] at hR ⊢
                  simp [hin, a2, idxK_prs a1, e0, hu, hA, hB, aq_none, p0_yes, p0_nil, hR, hm0, c2, k2, k3, cA, k1, k5, k6, cB, k4]
            · rw [if_neg (fun e => hch e.1)] at hu
              by_cases cA : A = []
              · by_cases cB : B = []
                · subst cA
                  subst cB
                  have hm0 : ms.length ≤ 900000000 := by omega
                  simp [c2] at hR ⊢
                  simp [hin, a2, idxK_prs a1, e0, hu, hA, hB, aq_none, p0_yes, p0_nil, hR, hm0, c2]
                · subst cA
                  have k4 := fun (k : PV → Res) (a : List Int) (h : a.length ≤ 900000000) => aq_ints (k := k) (a := a) cB (by omega)
                  have k5 := fun (k : PV → Res) => aq_nil (k := k) cB (by omega)
                  have k6 := fun (k : Res) (s : AV) => p0_no (k := k) (s := s) cB
                  have hm0 : ms.length ≤ 900000000 := by omega
                  have k4 := fun k => k4 k ms hm0
                  simp [c2, cB] at hR ⊢
                  simp [hin, a2, idxK_prs a1, e0, hu, hA, hB, aq_none, p0_yes, p0_nil, hR, hm0, c2, k5, k6, cB, k4]
              · by_cases cB : B = []
                · subst cB
                  have k1 := fun (k : PV → Res) (a : List Int) (h : a.length ≤ 900000000) => aq_ints (k := k) (a := a) cA (by omega)
                  have k2 := fun (k : PV → Res) => aq_nil (k := k) cA (by omega)
                  have k3 := fun (k : Res) (s : AV) => p0_no (k := k) (s := s) cA
                  have hm0 : ms.length ≤ 900000000 := by omega
                  have k1 := fun k => k1 k ms hm0
                  simp [c2, cA] at hR ⊢
                  simp [hin, a2, idxK_prs a1, e0, hu, hA, hB, aq_none, p0_yes, p0_nil, hR, hm0, c2, k2, k3, cA, k1]
                · have k1 := fun (k : PV → Res) (a : List Int) (h : a.length ≤ 900000000) => aq_ints (k := k) (a := a) cA (by omega)
                  have k2 := fun (k : PV → Res) => aq_nil (k := k) cA (by omega)
                  have k3 := fun (k : Res) (s : AV) => p0_no (k := k) (s := s) cA
                  have k4 := fun (k : PV → Res) (a : List Int) (h : a.length ≤ 900000000) => aq_ints (k := k) (a := a) cB (by omega)
                  have k5 := fun (k : PV → Res) => aq_nil (k := k) cB (by omega)
                  have k6 := fun (k : Res) (s : AV) => p0_no (k := k) (s := s) cB
                  have hm0 : ms.length ≤ 900000000 := by omega
                  have k1 := fun k => k1 k ms hm0
                  have k4 := fun k => k4 k (ms ++ A) (by rw [List.length_append]; omega)
                  simp [c2, cA, cB] at hR ⊢
                  simp [hin, a2, idxK_prs a1, e0, hu, hA, hB, aq_none, p0_yes, p0_nil, hR, hm0, c2, k2, k3, cA, k1, k5, k6, cB, k4]
      · rw [if_neg hc] at h
        cases h
        unfold q7L
        by_cases c1 : s.tr = []
        · obtain ⟨mm, tt, hmt, hu⟩ := uny_a c1 hlen hx
          rw [h0, h0'] at hu
          by_cases ht' : s'.tr = []
          · rw [if_pos ht'] at hu
            refine ⟨(0, [nilS, iv 0, iv s'.st, mm, nilS, iv (i : Int), iv (uniE r s')]), ?_, _, _, tt, .inl rfl⟩
            by_cases c2 : ms = []
            · rw [if_pos c1, if_pos c2]
              refine Evl.of ?_
              rw [h7b0a, g7b0a]
              simp [hin, a2, idxK_prs a1, hu, hc, nilS]
            · rw [if_pos c1, if_neg c2]
              refine Evl.of ?_
              rw [h7b0b, g7b0b]
              simp [hin, a2, idxK_prs a1, hu, hc, nilS]
          · rw [if_neg ht'] at hu
            refine ⟨(1, [iv 0, iv s'.st, mm, tt, nilS, iv (i : Int), iv (uniE r s')]), ?_, _, _, _, .inr rfl⟩
            by_cases c2 : ms = []
            · rw [if_pos c1, if_pos c2]
              refine Evl.of ?_
              rw [h7b0a, g7b0a]
              simp [hin, a2, idxK_prs a1, hu, hc, nilS]
            · rw [if_pos c1, if_neg c2]
              refine Evl.of ?_
              rw [h7b0b, g7b0b]
              simp [hin, a2, idxK_prs a1, hu, hc, nilS]
        · obtain ⟨mm, tt, hmt, htt, hu⟩ := uny_b hlen hx
          rw [h0, h0'] at hu
          refine ⟨(1, [iv 0, iv s'.st, mm, tt, nilS, iv (i : Int), iv (uniE r s')]), ?_, _, _, _, .inr rfl⟩
          by_cases hq : s'.tr.length = s.tr.length ∧ uniE r s' ≠ 140
          · rw [if_pos hq, htt hq] at hu
            rw [htt hq]
            by_cases c2 : ms = []
            · rw [if_neg c1, if_pos c2]
              refine Evl.of ?_
              rw [h7b0d, g7b0d]
              simp [hin, a2, idxK_prs a1, hu, hc, nilS]
            · rw [if_neg c1, if_neg c2]
              refine Evl.of ?_
              rw [h7b0c, g7b0c]
              simp [hin, a2, idxK_prs a1, hu, hc, nilS]
          · rw [if_neg hq] at hu
            by_cases c2 : ms = []
            · rw [if_neg c1, if_pos c2]
              refine Evl.of ?_
              rw [h7b0d, g7b0d]
              simp [hin, a2, idxK_prs a1, hu, hc, nilS]
            · rw [if_neg c1, if_neg c2]
              refine Evl.of ?_
              rw [h7b0c, g7b0c]
              simp [hin, a2, idxK_prs a1, hu, hc, nilS]
end Go.Proofs.Ytnepapfndihalaa
