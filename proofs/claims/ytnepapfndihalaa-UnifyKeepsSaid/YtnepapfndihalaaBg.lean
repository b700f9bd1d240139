/- Joined texts. -/
import Derived.Test.YtnepapfndihalaaBf
set_option linter.unusedVariables false
set_option linter.unusedSimpArgs false
set_option linter.unusedSectionVars false
namespace Go.Proofs.Ytnepapfndihalaa
open Go.RowKit

section
variable {β : Type} {d : β} {k : PV → β}
theorem sumK_ii (m n : Int) : sumK d (iv m) (iv n) k = k (iv (m + n)) := by
  refine theK_of (and_iff (fun w => ?_) (.lit _))
  constructor
  · rintro ⟨_, _, _, _, h1, h2, rfl⟩
    cases h1; cases h2; rfl
  · rintro rfl
    exact ⟨_, _, m, n, rfl, rfl, rfl⟩
def bdel (b : Bd) (n : Int) : Bd := match b.findIdx? (isN n) with
  | some j => b.eraseIdx j
  | none => b
theorem map_eraseI {α γ : Type} (f : α → γ) : ∀ (l : List α) (j : Nat), (l.eraseIdx j).map f = (l.map f).eraseIdx j
  | [], j => by simp
  | _ :: _, 0 => by simp
  | x :: l, j + 1 => by simp [map_eraseI f l j]
theorem delK_sbs (b : Bd) (n : Int) : delK Try.prog d 60 (sbs b) (.pv (.lit (.int .i64 n))) k = k (sbs (bdel b n)) := by
  have hf : findKP Try.prog 3 (.int .i64) (.int .i64 n) ((b.map sbC).map keyV) = some (b.findIdx? (isN n)) := by
    rw [keys_bd]; unfold findKP; rw [findK_n]
  have he : sbs (bdel b n) = .rows (match b.findIdx? (isN n) with | some j => (b.map sbC).eraseIdx j | none => b.map sbC) := by
    unfold bdel
    cases b.findIdx? (isN n) with
    | none => rfl
    | some j => simp only [sbs, map_eraseI]
  refine theK_of (and_iff (fun w => ?_) (ns_sbs _))
  constructor
  · rintro ⟨kt, et, dd, es, key, r, g1, g2, g3, _, g5, _, g7, g8, _⟩
    rw [u_map] at g1
    cases g1
    rw [u_int] at g2
    cases g2
    cases g3
    have g5 := Option.some.inj g5
    subst g5
    rw [hf] at g7
    cases g7
    rw [g8, he]
    cases b.findIdx? (isN n) <;> rfl
  · rintro rfl
    exact ⟨3, 27, .int .i64, b.map sbC, .int .i64 n, _, u_map, u_int, rfl, bd_ns b, rfl, rfl, hf, he, nsP_of (ns_sbs _)⟩
theorem slcK_from {k : AV → Res} {l : List Int} {i : Nat} (h : i ≤ l.length) : slcK Try.prog .fail 55 (.pv (ints l)) (some (.pv (.lit (.int .i64 (i : Int))))) none k = k (.pv (ints (l.drop i))) :=
  slcK_of (slc_one (by have := slc_from sl_ints (es := ivs l) (l := i) (by simpa [ivs] using h) (by simp [ivs]); rwa [ivs, ← List.map_drop] at this)) (.pv _ (ns_ints _))
theorem slcK_from0 {k : AV → Res} {l : List Int} : slcK Try.prog .fail 55 (.pv (ints l)) (some (.pv (.lit (.int .i64 0)))) none k = k (.pv (ints l)) := slcK_from (i := 0) (Nat.zero_le _)
theorem slcK_to0 {k : AV → Res} {l : List Int} : slcK Try.prog .fail 55 (.pv (ints l)) none (some (.pv (.lit (.int .i64 0)))) k = k (.pv (ints [])) := slcK_ints (i := 0) (Nat.zero_le _)
end
/-! What was bound is set free. -/
theorem del_b (l : List Int) (hl : l.length ≤ 1000000001) (n : Nat) (F G X : PV) : ∀ (m i : Nat) (b : Bd), (l.drop n).length = i + m → ∃ b', ev (q12bb0a (iv (i : Int)) (iv (l.drop n).length) (iv n) (ints (l.drop n)) X (ints l) F G (sbs b)) = some (0, [ints l, F, G, sbs b', X])
  | 0, i, b, h => ⟨b, Evl.of (by
    have hi : ¬ (i : Int) < (l.drop n).length := by omega
    rw [h12bb0a, g12bb0a]
    simp only [List.length_drop] at hi
    simp [hi])⟩
  | m + 1, i, b, h => by
    have hi : i < (l.drop n).length := by omega
    have hx : (l.drop n)[i]? = some ((l.drop n)[i]) := List.getElem?_eq_getElem hi
    have hy : l[n + i]? = some ((l.drop n)[i]) := by rw [← List.getElem?_drop, hx]
    obtain ⟨b', hb'⟩ := del_b l hl n F G X m (i + 1) (bdel b ((l.drop n)[i])) (by omega)
    generalize hv : (l.drop n)[i] = v at hx hy hb'
    refine ⟨b', Evl.of ?_⟩
    have e0 : IntKind.i64.wrap ((i : Int) + 1) = (i : Int) + 1 := by rw [IntKind.wrap_i64]; simp at hi; omega
    have e1 : ((i + 1 : Nat) : Int) = (i : Int) + 1 := by omega
    have e2 : ((n + i : Nat) : Int) = (n : Int) + (i : Int) := by omega
    have hiI : (i : Int) < (l.drop n).length := by omega
    have hk := fun k => idxK_ints (d := Res.fail) (k := k) hy
    rw [e2] at hk
    rw [e1] at hb'
    rw [h12bb0a, g12bb0a]
    simp only [List.length_drop] at hb' hiI ⊢
    simp [hiI, idxK_ints hx, sumK_ii, hk, delK_sbs, e0, hb']
theorem del_a (l : List Int) (hl : l.length ≤ 1000000001) (n : Nat) (F G : PV) : ∀ (m i : Nat) (b : Bd), (l.drop n).length = i + m → ∃ b', ev (q12ab0b (iv (i : Int)) (iv (l.drop n).length) (iv n) (ints (l.drop n)) (ints l) F G (sbs b)) = some (0, [ints l, F, G, sbs b', iv 0])
  | 0, i, b, h => ⟨b, Evl.of (by
    have hi : ¬ (i : Int) < (l.drop n).length := by omega
    rw [h12ab0b, g12ab0b]
    simp only [List.length_drop] at hi
    simp [hi])⟩
  | m + 1, i, b, h => by
    have hi : i < (l.drop n).length := by omega
    have hx : (l.drop n)[i]? = some ((l.drop n)[i]) := List.getElem?_eq_getElem hi
    have hy : l[n + i]? = some ((l.drop n)[i]) := by rw [← List.getElem?_drop, hx]
    obtain ⟨b', hb'⟩ := del_a l hl n F G m (i + 1) (bdel b ((l.drop n)[i])) (by omega)
    generalize hv : (l.drop n)[i] = v at hx hy hb'
    refine ⟨b', Evl.of ?_⟩
    have e0 : IntKind.i64.wrap ((i : Int) + 1) = (i : Int) + 1 := by rw [IntKind.wrap_i64]; simp at hi; omega
    have e1 : ((i + 1 : Nat) : Int) = (i : Int) + 1 := by omega
    have e2 : ((n + i : Nat) : Int) = (n : Int) + (i : Int) := by omega
    have hiI : (i : Int) < (l.drop n).length := by omega
    have hk := fun k => idxK_ints (d := Res.fail) (k := k) hy
    rw [e2] at hk
    rw [e1] at hb'
    rw [h12ab0b, g12ab0b]
    simp only [List.length_drop] at hb' hiI ⊢
    simp [hiI, idxK_ints hx, sumK_ii, hk, delK_sbs, e0, hb']

def uniE (r : Bool) (s : St) : Int := if s.st > maxS then 3 else if r then 0 else 140
theorem uny_a {f : Nat} {x y : Ty} {s s' : St} {r : Bool} (ht : s.tr = []) (hl : s'.tr.length ≤ 1000000001) (h : unifF f x y s = some (r, s')) : ∃ m : PV, ∃ t : PV, (uniE r s' = 0 → m = sbs s'.b ∧ t = ints s'.tr) ∧
    ev (q12a (iv x.kind) (sv x.name) (iv x.n) (tys x.kids) (iv y.kind) (sv y.name) (iv y.n) (tys y.kids) (iv s.fr) (iv s.st) (sbs s.b)) =
      some (if s'.tr = [] then (0, [.lit (.slice none 0 0), iv s'.fr, iv s'.st, m, iv (uniE r s')]) else (1, [iv s'.fr, iv s'.st, m, t, iv (uniE r s')])) := by
  have h1 := uni_a f x y s s' r ht h
  have hfr := (unif_ext f x y s s' r h).fr
  unfold outA at h1
  rw [hfr] at h1 ⊢
  have h0 := fun b => (Evl.of (by
    rw [h12ab0a, g12ab0a]
    simp) : ev (q12ab0a (iv 0) (iv s.fr) (iv s'.st) (sbs b)) = some (0, [.lit (.slice none 0 0), iv s.fr, iv s'.st, sbs b, iv 0]))
  by_cases hm : s'.st > maxS
  · have hm' : s'.st > 1048576 := hm
    refine ⟨sbs s'.b, ints s'.tr, fun _ => ⟨rfl, rfl⟩, Evl.of ?_⟩
    rw [h12a, g12a]
    by_cases ht' : s'.tr = []
    · rw [if_pos ht'] at h1
      cases r <;> simp [h1, hm, hm', uniE, ht']
    · rw [if_neg ht'] at h1
      cases r <;> simp [h1, hm, hm', uniE, ht']
  · have hm' : ¬ s'.st > 1048576 := hm
    cases r with
    | true =>
      refine ⟨sbs s'.b, ints s'.tr, fun _ => ⟨rfl, rfl⟩, Evl.of ?_⟩
      rw [h12a, g12a]
      by_cases ht' : s'.tr = []
      · rw [if_pos ht'] at h1
        simp [h1, hm, hm', uniE, ht']
      · rw [if_neg ht'] at h1
        simp [h1, hm, hm', uniE, ht']
    | false =>
      by_cases ht' : s'.tr = []
      · rw [if_pos ht'] at h1
        refine ⟨sbs s'.b, ints s'.tr, fun _ => ⟨rfl, rfl⟩, Evl.of ?_⟩
        rw [h12a, g12a]
        simp [h1, hm, hm', uniE, ht', h0]
      · rw [if_neg ht'] at h1
        obtain ⟨b', hb'⟩ := del_a s'.tr hl 0 (iv s.fr) (iv s'.st) s'.tr.length 0 s'.b (by simp)
        simp at hb'
        refine ⟨sbs b', ints [], fun h => absurd h (by simp [uniE, hm]), Evl.of ?_⟩
        rw [h12a, g12a]
        simp [h1, hm, hm', uniE, ht', slcK_from0, lenK_ints, hb', slcK_to0]
theorem uny_b {f : Nat} {x y : Ty} {s s' : St} {r : Bool} (hl : s'.tr.length ≤ 1000000001) (h : unifF f x y s = some (r, s')) : ∃ m : PV, ∃ t : PV, (uniE r s' = 0 → m = sbs s'.b ∧ t = ints s'.tr) ∧ (s'.tr.length = s.tr.length ∧ uniE r s' ≠ 140 → t = ints s.tr) ∧
    ev (q12b (iv x.kind) (sv x.name) (iv x.n) (tys x.kids) (iv y.kind) (sv y.name) (iv y.n) (tys y.kids) (iv s.fr) (iv s.st) (sbs s.b) (ints s.tr)) =
      some (if s'.tr.length = s.tr.length ∧ uniE r s' ≠ 140 then 0 else 1, [iv s'.fr, iv s'.st, m, t, iv (uniE r s')]) := by
  have h1 := uni_b f x y s s' r h
  have hfr := (unif_ext f x y s s' r h).fr
  obtain ⟨tl, htl⟩ := (unif_ext f x y s s' r h).tr
  have hst : s.tr.length ≤ s'.tr.length := by rw [htl, List.length_append]; omega
  rw [hfr] at h1 ⊢

  have hs2 : s'.tr.length = s.tr.length → ints s'.tr = ints s.tr := fun ht' => by
    have hsame : s'.tr = s.tr := by rw [htl] at ht'; simp at ht'; rw [htl, ht']; simp
    rw [hsame]
  by_cases hm : s'.st > maxS
  · have hm' : s'.st > 1048576 := hm
    refine ⟨sbs s'.b, ints s'.tr, fun _ => ⟨rfl, rfl⟩, fun e => hs2 e.1, Evl.of ?_⟩
    rw [h12b, g12b]
    by_cases ht' : s'.tr.length = s.tr.length
    · have hsame : s'.tr = s.tr := by rw [htl] at ht'; simp at ht'; rw [htl, ht']; simp
      rw [if_pos ht', hsame] at h1
      cases r <;> simp [lenK_ints, h1, hm, hm', uniE, hsame]
    · rw [if_neg ht'] at h1
      cases r <;> simp [lenK_ints, h1, hm, hm', uniE, ht']
  · have hm' : ¬ s'.st > 1048576 := hm
    cases r with
    | true =>
      refine ⟨sbs s'.b, ints s'.tr, fun _ => ⟨rfl, rfl⟩, fun e => hs2 e.1, Evl.of ?_⟩
      rw [h12b, g12b]
      by_cases ht' : s'.tr.length = s.tr.length
      · have hsame : s'.tr = s.tr := by rw [htl] at ht'; simp at ht'; rw [htl, ht']; simp
        rw [if_pos ht', hsame] at h1
        simp [lenK_ints, h1, hm, hm', uniE, hsame]
      · rw [if_neg ht'] at h1
        simp [lenK_ints, h1, hm, hm', uniE, ht']
    | false =>
      have hf1 := fun k => slcK_from (k := k) (l := s'.tr) (i := s.tr.length) hst
      have hf2 := fun k => slcK_ints (k := k) (l := s'.tr) (i := s.tr.length) hst
      obtain ⟨b', hb'⟩ := del_b s'.tr hl s.tr.length (iv s.fr) (iv s'.st) (iv s.tr.length) (s'.tr.drop s.tr.length).length 0 s'.b (by simp)
      simp only [Int.ofNat_zero, Int.natCast_zero] at hb'
      refine ⟨sbs b', ints (s'.tr.take s.tr.length), fun h => absurd h (by simp [uniE, hm]), fun e => absurd (by simp [uniE, hm]) e.2, Evl.of ?_⟩
      rw [h12b, g12b]
      by_cases ht' : s'.tr.length = s.tr.length
      · have hsame : s'.tr = s.tr := by rw [htl] at ht'; simp at ht'; rw [htl, ht']; simp
        rw [if_pos ht', hsame] at h1
        rw [hsame] at hf1 hf2 hb' ⊢
        simp [lenK_ints, h1, hm, hm', uniE, hf1, hf2] at hb' ⊢
        simp [hb', hf2]
      · rw [if_neg ht'] at h1
        simp [lenK_ints, h1, hm, hm', uniE, hf1, hf2] at hb' ⊢
        simp [hb', hf2]

def seeF (k n : Int) (acc : List Int) : List Int := if k = 2 ∧ ¬ n ∈ acc then acc ++ [n] else acc
mutual
def walkF : Ty → List Int → List Int
  | .mk k _ n ks, acc => walkL ks (seeF k n acc)
def walkL : List Ty → List Int → List Int
  | [], acc => acc
  | t :: l, acc => walkL l (walkF t acc)
end
theorem walkF_eq (t : Ty) (acc : List Int) : walkF t acc = walkL t.kids (seeF t.kind t.n acc) := by cases t; rw [walkF]; rfl
theorem see_le (k n : Int) (acc : List Int) : acc.length ≤ (seeF k n acc).length := by unfold seeF; split <;> simp
mutual
theorem walk_le : ∀ (t : Ty) (acc : List Int), acc.length ≤ (walkF t acc).length
  | .mk k s n ks, acc => by rw [walkF]; exact Nat.le_trans (see_le k n acc) (walkl_le ks _)
theorem walkl_le : ∀ (l : List Ty) (acc : List Int), acc.length ≤ (walkL l acc).length
  | [], acc => by rw [walkL]; exact Nat.le_refl _
  | t :: l, acc => by rw [walkL]; exact Nat.le_trans (walk_le t acc) (walkl_le l _)
end
theorem see_same {k n : Int} {acc : List Int} (h : (seeF k n acc).length = acc.length) : seeF k n acc = acc := by
  unfold seeF at h ⊢
  split
  · rename_i h1; rw [if_pos h1] at h; simp at h
  · rfl
mutual
theorem walk_same : ∀ {t : Ty} {acc : List Int}, (walkF t acc).length = acc.length → walkF t acc = acc
  | .mk k s n ks, acc, h => by
    rw [walkF] at h ⊢
    have h1 := see_le k n acc
    have h2 := walkl_le ks (seeF k n acc)
    have h3 := see_same (k := k) (n := n) (acc := acc) (by omega)
    rw [h3] at h ⊢
    exact walkl_same h
theorem walkl_same : ∀ {l : List Ty} {acc : List Int}, (walkL l acc).length = acc.length → walkL l acc = acc
  | [], acc, h => by rw [walkL]
  | t :: l, acc, h => by
    rw [walkL] at h ⊢
    have h1 := walk_le t acc
    have h2 := walkl_le l (walkF t acc)
    have h3 := walk_same (t := t) (acc := acc) (by omega)
    rw [h3] at h ⊢
    exact walkl_same h
end
inductive Few : Ty → Prop
  | mk {k : Int} {s : ByteArray} {n : Int} {ks : List Ty} : ks.length ≤ 1000000 → (∀ t ∈ ks, Few t) → Few (.mk k s n ks)
theorem Few.len : ∀ {t : Ty}, Few t → t.kids.length ≤ 1000000
  | _, .mk h _ => h
theorem Few.kid : ∀ {t : Ty}, Few t → ∀ x ∈ t.kids, Few x
  | _, .mk _ h => h
def metsF (t : Ty) : List Int := walkF t []

section
variable {β : Type} {d : β} {k : PV → β}
theorem u_tys : Try.prog.underlying 25 = some (.slice 27) := by kernel_rfl
theorem sz_ty : szA Try.prog 27 = some 4 := by kernel_rfl
theorem by_ty : bytesA Try.prog 27 = some 56 := by kernel_rfl
theorem zero_tyA : zeroA Try.prog 27 = some (zT.map .pv) := by kernel_rfl
theorem zT_ns : NSL zT := fun p hp => by
  simp only [zT, List.mem_cons, List.not_mem_nil, or_false] at hp
  rcases hp with rfl | rfl | rfl | rfl <;> exact .lit _
/-- Types that are made, and zeros behind them. -/
def halfR (l : List Ty) (m : Nat) : List (List PV) := l.map Ty.cells ++ List.replicate m zT
theorem half_ns (l : List Ty) (m : Nat) : NS (.rows (halfR l m)) := .rows _ fun c hc p hp => by
  rcases List.mem_append.1 hc with hc | hc
  · obtain ⟨x, hx, rfl⟩ := List.mem_map.1 hc
    exact x.ns p hp
  · rw [List.eq_of_mem_replicate hc] at hp
    exact zT_ns p hp
theorem mkK_tys {n : Nat} (h : n ≤ 1000000) : mkK Try.prog d 25 (.pv (iv n)) k = k (.rows (halfR [] n)) := by
  refine theK_of (and_iff (fun w => ?_) (half_ns [] n))
  constructor
  · rintro ⟨e, sz, by_, zc, z, m, g1, g2, g3, g4, g5, g6, g7, g8, g9, g10, rfl, _⟩
    rw [u_tys] at g1
    cases g1
    rw [zero_tyA] at g4
    cases g4
    have hz : z = zT := by
      have : toPVs (zT.map AV.pv) = some zT := rfl
      rw [this] at g5; exact (Option.some.inj g5).symm
    have hm : m = n := by
      have : intV (.pv (iv n)) = some (n : Int) := rfl
      rw [this] at g8
      have := Option.some.inj g8
      omega
    rw [hz, hm]; rfl
  · rintro rfl
    exact ⟨27, 4, 56, zT.map .pv, zT, n, u_tys, sz_ty, by_ty, zero_tyA, rfl, by omega, rfl, rfl, by omega, by omega, rfl, nsP_of (half_ns [] n)⟩
theorem half_at (l : List Ty) (m : Nat) : (halfR l (m + 1))[l.length]? = some zT := by
  unfold halfR
  rw [List.getElem?_append_right (by simp)]
  simp
theorem half_set (l : List Ty) (m : Nat) (u : Ty) : (halfR l (m + 1)).set l.length u.cells = halfR (l ++ [u]) m := by
  unfold halfR
  rw [List.set_append_right _ _ (by simp)]
  simp [List.replicate_succ]
theorem half_end (l : List Ty) : PV.rows (halfR l 0) = tys l := by simp [halfR, tys]
theorem idxK_half {k : AV → β} (l : List Ty) (m : Nat) : idxK Try.prog d 25 (.pv (.rows (halfR l (m + 1)))) (.pv (.lit (.int .i64 (l.length : Int)))) k = k (.cptr [iv 0, sv ⟨#[]⟩, iv 0, .lit (.slice none 0 0)]) :=
  idxK_rows sl_tys (half_at l m) rfl zT_ns
theorem setK_half (l : List Ty) (m : Nat) (u : Ty) : setK d (.rows (halfR l (m + 1))) (.lit (.int .i64 (l.length : Int))) 0 [iv u.kind, sv u.name, iv u.n, tys u.kids] k = k (.rows (halfR (l ++ [u]) m)) := by
  have hlt : l.length < (halfR l (m + 1)).length := by simp [halfR]
  have hg : (halfR l (m + 1)).getD l.length [] = zT := by rw [List.getD_eq_getElem?_getD, half_at]; rfl
  have hs : setAt zT 0 [iv u.kind, sv u.name, iv u.n, tys u.kids] = u.cells := by rw [Ty.cells_eq]; rfl
  refine theK_of (and_iff (fun w => ?_) (half_ns _ m))
  constructor
  · rintro ⟨es, n, kd, g1, g2, g3, g4, g5, rfl, _⟩
    cases g1
    cases g2
    rw [Int.toNat_natCast, hg, hs, half_set]
  · rintro rfl
    refine ⟨_, _, _, rfl, rfl, by omega, by rw [Int.toNat_natCast]; exact hlt, ?_, ?_, nsP_of (half_ns _ m)⟩
    · rw [Int.toNat_natCast, hg]; exact Nat.le_refl 4
    · rw [Int.toNat_natCast, hg, hs, half_set]
end
@[simp] theorem Ty.kind_mk (k : Int) (s : ByteArray) (n : Int) (l : List Ty) : (Ty.mk k s n l).kind = k := rfl
@[simp] theorem Ty.name_mk (k : Int) (s : ByteArray) (n : Int) (l : List Ty) : (Ty.mk k s n l).name = s := rfl
@[simp] theorem Ty.n_mk (k : Int) (s : ByteArray) (n : Int) (l : List Ty) : (Ty.mk k s n l).n = n := rfl
@[simp] theorem Ty.kids_mk (k : Int) (s : ByteArray) (n : Int) (l : List Ty) : (Ty.mk k s n l).kids = l := rfl
/-- A type applied: itself, the steps, the parts. -/
def appF (b : Bd) : Nat → Ty → Int → Int → Option (Ty × Int × Int)
  | 0, _, _, _ => none
  | f + 1, t, st, pa => match headF f b t with
    | none => none
    | some u => if IntKind.i64.wrap (pa + 1) > 5000 then some (u, st, IntKind.i64.wrap (pa + 1))
      else if stepI st ≤ maxS then (if u.kids.length ≤ 1000000 then match appL (appF b f) u.kids (stepI st) (IntKind.i64.wrap (pa + 1)) with
        | none => none
        | some (ks, st', pa') => some (.mk u.kind u.name u.n ks, st', pa') else none)
      else some (u, stepI st, IntKind.i64.wrap (pa + 1))
where
  appL (g : Ty → Int → Int → Option (Ty × Int × Int)) : List Ty → Int → Int → Option (List Ty × Int × Int)
  | [], st, pa => some ([], st, pa)
  | t :: l, st, pa => match g t st pa with
    | none => none
    | some (u, st', pa') => match appL g l st' pa' with
      | none => none
      | some (r, st'', pa'') => some (u :: r, st'', pa'')
def AppB (s : St) (g : Ty → Int → Int → Option (Ty × Int × Int)) : Prop := ∀ (t u : Ty) (st pa st' pa' : Int), g t st pa = some (u, st', pa') →
  ev (q31b (iv t.kind) (sv t.name) (iv t.n) (tys t.kids) (iv s.fr) (iv st) (sbs s.b) (ints s.tr) (iv pa)) = some (0, [iv s.fr, iv st', sbs s.b, ints s.tr, iv pa', iv u.kind, sv u.name, iv u.n, tys u.kids])
theorem apl_b (s : St) {g : Ty → Int → Int → Option (Ty × Int × Int)} (hg : AppB s g) (l : List Ty) (hb : l.length ≤ 1000000) (A B C D : PV) : ∀ (m : List Ty) (done : List Ty) (r : List Ty) (st pa st' pa' : Int), l.drop done.length = m → appF.appL g m st pa = some (r, st', pa') →
    ev (q31bb0a (iv (done.length : Int)) (iv l.length) (tys l) (.rows (halfR done m.length)) (iv s.fr) (iv st) (sbs s.b) (ints s.tr) (iv pa) A B C D) =
      some (0, [tys (done ++ r), iv s.fr, iv st', sbs s.b, ints s.tr, iv pa', A, B, C, D, iv 0, sv ⟨#[]⟩, iv 0, .lit (.slice none 0 0)])
  | [], done, r, st, pa, st', pa', hd, h => by
    have hi := drop_nil hd
    rw [appF.appL] at h
    cases h
    have he := half_end done
    refine Evl.of ?_
    rw [h31bb0a, g31bb0a]
    simp [hi, he]
  | t :: m, done, r, st, pa, st', pa', hd, h => by
    obtain ⟨a1, a2, a3⟩ := drop_cons hd
    have e0 : IntKind.i64.wrap ((done.length : Int) + 1) = (done.length : Int) + 1 := by rw [IntKind.wrap_i64]; omega
    rw [appF.appL] at h
    cases hx : g t st pa with
    | none => rw [hx] at h; cases h
    | some q =>
      obtain ⟨u, st1, pa1⟩ := q
      rw [hx] at h
      simp only at h
      cases hy : appF.appL g m st1 pa1 with
      | none => rw [hy] at h; cases h
      | some q =>
        obtain ⟨r1, st2, pa2⟩ := q
        rw [hy] at h
        cases h
        have h1 := hg _ _ _ _ _ _ hx
        have ih := apl_b s hg l hb A B C D m (done ++ [u]) r1 st1 pa1 st' pa' (by rw [List.length_append]; exact a3) hy
        have e1 : (((done ++ [u]).length : Nat) : Int) = (done.length : Int) + 1 := by simp
        rw [e1, List.append_assoc, List.cons_append, List.nil_append] at ih
        have hx1 := fun k => idxK_half (d := Res.fail) (k := k) done m.length
        have hx2 := fun k => setK_half (d := Res.fail) (k := k) done m.length u
        refine Evl.of ?_
        rw [h31bb0a, g31bb0a]
        simp [a2, idxK_tys a1, h1, e0, hx1, hx2, ih]
theorem app_b (s : St) : ∀ (f : Nat), AppB s (appF s.b f)
  | 0 => fun t u st pa st' pa' h => by cases h
  | f + 1 => fun t u st pa st' pa' h => by
    have ih := app_b s f
    rw [appF] at h
    cases hh : headF f s.b t with
    | none => rw [hh] at h; cases h
    | some v =>
      rw [hh] at h
      simp only at h
      have h0 := head_b { s with st := st } hh
      have hs := step_b s st
      simp only at h0
      by_cases hp : IntKind.i64.wrap (pa + 1) > 5000
      · rw [if_pos hp] at h
        cases h
        refine Evl.of ?_
        rw [h31b, g31b]
        simp [h0, hp]
      · rw [if_neg hp] at h
        by_cases hm : stepI st ≤ maxS
        · rw [if_pos hm] at h
          by_cases hk : v.kids.length ≤ 1000000
          · rw [if_pos hk] at h
            cases hy : appF.appL (appF s.b f) v.kids (stepI st) (IntKind.i64.wrap (pa + 1)) with
            | none => rw [hy] at h; cases h
            | some q =>
              obtain ⟨r1, st2, pa2⟩ := q
              rw [hy] at h
              cases h
              have h1 := apl_b s ih v.kids hk (iv v.kind) (sv v.name) (iv v.n) (tys v.kids) v.kids [] r1 _ _ _ _ rfl hy
              have h2 := fun k => mkK_tys (d := Res.fail) (k := k) hk
              simp only [List.length_nil, Int.ofNat_zero, Int.natCast_zero, List.nil_append] at h1
              refine Evl.of ?_
              rw [h31b, g31b]
              simp [h0, hp, hs, hm, lenK_tys, h2, h1]
          · rw [if_neg hk] at h; cases h
        · rw [if_neg hm] at h
          cases h
          refine Evl.of ?_
          rw [h31b, g31b]
          simp [h0, hp, hs, hm]
/-- A type wholly applied, if it has not too many parts, and the steps. -/
def applyF (b : Bd) (f : Nat) (t : Ty) (st : Int) : Option (Option (Ty × Int)) := match appF b f t st 0 with
  | none => none
  | some (u, st', pa') => if pa' > 5000 ∨ st' > maxS then some none else some (some (u, st'))
theorem apply_ok (s : St) {f : Nat} {t u : Ty} {st st' : Int} (h : applyF s.b f t st = some (some (u, st'))) :
    ev (q15b (iv t.kind) (sv t.name) (iv t.n) (tys t.kids) (iv s.fr) (iv st) (sbs s.b) (ints s.tr)) = some (0, [iv s.fr, iv st', sbs s.b, ints s.tr, iv u.kind, sv u.name, iv u.n, tys u.kids, iv 0]) := Evl.of (by
  unfold applyF at h
  cases hy : appF s.b f t st 0 with
  | none => rw [hy] at h; cases h
  | some q =>
    obtain ⟨v, st1, pa1⟩ := q
    rw [hy] at h
    simp only at h
    have h1 := app_b s f _ _ _ _ _ _ hy
    split at h
    · cases h
    · rename_i hc
      cases h
      have c1 : ¬ pa1 > 5000 := fun e => hc (.inl e)
      have c2 : ¬ st' > 1048576 := fun e => hc (.inr e)
      rw [h15b, g15b]
      simp [h1, c1, c2])
theorem apply_no (s : St) {f : Nat} {t : Ty} {st : Int} (h : applyF s.b f t st = some none) :
    ev (q15b (iv t.kind) (sv t.name) (iv t.n) (tys t.kids) (iv s.fr) (iv st) (sbs s.b) (ints s.tr)) = some (0, [iv s.fr, iv 1048577, sbs s.b, ints s.tr, iv 0, sv ⟨#[]⟩, iv 0, .lit (.slice none 0 0), iv 3]) := Evl.of (by
  unfold applyF at h
  cases hy : appF s.b f t st 0 with
  | none => rw [hy] at h; cases h
  | some q =>
    obtain ⟨v, st1, pa1⟩ := q
    rw [hy] at h
    simp only at h
    have h1 := app_b s f _ _ _ _ _ _ hy
    split at h
    · rename_i hc
      rw [h15b, g15b]
      by_cases c1 : pa1 > 5000
      · simp [h1, c1]
      · have c2 : st1 > 1048576 := hc.resolve_left c1
        simp [h1, c1, c2]
    · cases h)
def nilS : PV := .lit (.slice none 0 0)
structure GoodP (p : Pr) : Prop where
  a : Few p.a
  b : Few p.b
  la : (metsF p.a).length ≤ 1000
  lb : (metsF p.b).length ≤ 1000
def mT (n : Int) : Ty := .mk 2 ⟨#[]⟩ n []
def Same (s : St) : Prop := s.b.length = s.tr.length
theorem meta_same {f : Nat} {a b : Ty} {s s' : St} {r : Bool} (hl : Same s) (h : metaF f a b s = some (r, s')) : Same s' := by
  rcases meta_out h with ⟨_, _, _, rfl⟩ | ⟨_, st, _, _, rfl⟩ | ⟨_, st, _, _, _, rfl⟩
  · exact hl
  · exact hl
  · unfold Same at hl ⊢; simp [St.bind, hl]
theorem kids_same {g : Ty → Ty → St → Option (Bool × St)} (hg : ∀ x y s s' r, Same s → g x y s = some (r, s') → Same s') : ∀ (l m : List Ty) (s s' : St) (r : Bool), Same s → kidsF g l m s = some (r, s') → Same s'
  | [], _, s, s', r, hl, h => by simp [kidsF] at h; rw [← h.2]; exact hl
  | _ :: _, [], s, s', r, hl, h => by simp [kidsF] at h; rw [← h.2]; exact hl
  | x :: l, y :: m, s, s', r, hl, h => by
    rw [kidsF] at h
    cases hx : g x y s with
    | none => rw [hx] at h; cases h
    | some q =>
      obtain ⟨r0, s0⟩ := q
      rw [hx] at h
      cases r0 with
      | true => exact kids_same hg l m s0 s' r (hg _ _ _ _ _ hl hx) h
      | false => cases h; exact hg _ _ _ _ _ hl hx
theorem unif_same : ∀ (f : Nat) (x y : Ty) (s s' : St) (r : Bool), Same s → unifF f x y s = some (r, s') → Same s'
  | 0, x, y, s, s', r, hl, h => by cases h
  | f + 1, x, y, s, s', r, hl, h => by
    have hs : Same s.step := hl
    rw [unifF] at h
    split at h
    · split at h
      · split at h
        · exact meta_same hs h
        · split at h
          · exact meta_same hs h
          · split at h
            · split at h
              · split at h
                · exact kids_same (fun x y s s' r hl h => unif_same f x y s s' r hl h) _ _ _ _ _ hs h
                · cases h
              · cases h; exact hs
            · cases h; exact hs
      · cases h; exact hs
    · cases h
def s00 : St := ⟨0, 0, [], []⟩
theorem new_ev : ev q9 = some (0, [nilS, iv 0, iv 0, .rows []]) := Evl.of (by rw [h9, g9]; simp [nilS])
/-- A type whose rows can be counted. -/
inductive Fit : Ty → Prop
  | mk {k : Int} {s : ByteArray} {n : Int} {ks : List Ty} : ks.length ≤ 9223372036854775807 → (∀ t ∈ ks, Fit t) → Fit (.mk k s n ks)
theorem Fit.len : ∀ {t : Ty}, Fit t → t.kids.length ≤ 9223372036854775807
  | _, .mk h _ => h
theorem Fit.kid : ∀ {t : Ty}, Fit t → ∀ x ∈ t.kids, Fit x
  | _, .mk _ h => h
theorem Few.fit {t : Ty} (h : Few t) : Fit t := by
  induction h with
  | mk h _ ih => exact .mk (by omega) ih
theorem wrap1 {i n : Nat} (h : i < n) (hn : n ≤ 9223372036854775807) : IntKind.i64.wrap ((i : Int) + 1) = (i : Int) + 1 := by rw [IntKind.wrap_i64]; omega
/-! Metas have no kids and no names. -/
mutual
def plainF : Ty → Bool
  | .mk k s n ks => if k = 2 ∧ (ks ≠ [] ∨ s ≠ ⟨#[]⟩) then false else plainL ks
def plainL : List Ty → Bool
  | [] => true
  | t :: l => plainF t && plainL l
end
def PlainE (t : Ty) : Prop := ev (q20 (iv t.kind) (sv t.name) (iv t.n) (tys t.kids)) = some (0, [bv (plainF t)])
theorem plain_l (l : List Ty) (hb : l.length ≤ 9223372036854775807) : ∀ (m : List Ty), (∀ t ∈ m, PlainE t) → ∀ (i : Nat), l.drop i = m →
    ev (q20b0a (iv (i : Int)) (iv l.length) (tys l)) = some (if plainL m then (1, []) else (0, [bv false]))
  | [], hB, i, hd => by
    have hi := drop_nil hd
    refine Evl.of ?_
    rw [h20b0a, g20b0a, plainL]
    simp [hi]
  | t :: m, hB, i, hd => by
    obtain ⟨a1, a2, a3⟩ := drop_cons hd
    have hin : i < l.length := by omega
    have e0 := wrap1 hin hb
    have e1 : ((i + 1 : Nat) : Int) = (i : Int) + 1 := by omega
    have h1 := hB t List.mem_cons_self
    unfold PlainE at h1
    have ih := plain_l l hb m (fun t ht => hB t (List.mem_cons_of_mem _ ht)) (i + 1) a3
    rw [e1] at ih
    refine Evl.of ?_
    rw [h20b0a, g20b0a, plainL]
    cases hp : plainF t <;> rw [hp] at h1 <;> simp [hin, idxK_tys a1, h1, e0, ih]
theorem plain_ev {t : Ty} (h : Fit t) : PlainE t := by
  induction h with
  | @mk k s n ks hl hk ih =>
    have h1 := plain_l ks hl ks ih 0 rfl
    simp only [Int.ofNat_zero, Int.natCast_zero] at h1
    unfold PlainE
    rw [plainF]
    simp only [Ty.kind_mk, Ty.name_mk, Ty.n_mk, Ty.kids_mk]
    refine Evl.of ?_
    rw [h20, g20]
    by_cases h2 : k = 2
    · cases ks with
      | cons x l =>
        simp [h2, lenK_tys]
      | nil =>
        by_cases hs : s = ⟨#[]⟩
        · simp [plainL] at h1
          simp [h2, hs, lenK_tys, h1, plainL]
        · simp [h2, hs, lenK_tys]
    · cases hp : plainL ks <;> rw [hp] at h1 <;> simp at h1 <;> simp [h2, lenK_tys, h1]
/-! How many types a type has. -/
mutual
def cntF : Ty → Int → Int
  | .mk k s n ks, most => if k = 1 ∧ (ks ≠ [] ∨ n ≠ 0) then most else cntL ks most 1
def cntL : List Ty → Int → Int → Int
  | [], most, n => n
  | t :: l, most, n => if n < most then cntL l most (n + cntF t (most - n)) else n
end
mutual
theorem cnt_b : ∀ (t : Ty) (most : Int), 1 ≤ most → 1 ≤ cntF t most ∧ cntF t most ≤ most
  | .mk k s n ks, most, h => by
    rw [cntF]
    split
    · omega
    · exact cntl_b ks most 1 h (by omega) (by omega)
theorem cntl_b : ∀ (l : List Ty) (most n : Int), 1 ≤ most → 1 ≤ n → n ≤ most → 1 ≤ cntL l most n ∧ cntL l most n ≤ most
  | [], most, n, h, h1, h2 => by rw [cntL]; exact ⟨h1, h2⟩
  | t :: l, most, n, h, h1, h2 => by
    rw [cntL]
    split
    · rename_i hlt
      have := cnt_b t (most - n) (by omega)
      exact cntl_b l most _ h (by omega) (by omega)
    · exact ⟨h1, h2⟩
end
def CntE (t : Ty) : Prop := ∀ most : Int, 1 ≤ most → most ≤ 1000 → ev (q33 (iv t.kind) (sv t.name) (iv t.n) (tys t.kids) (iv most)) = some (0, [iv (cntF t most)])
theorem cnt_l (l : List Ty) (hb : l.length ≤ 9223372036854775807) (A B C : PV) (most : Int) (h1m : 1 ≤ most) (hm : most ≤ 1000) : ∀ (m : List Ty), (∀ t ∈ m, CntE t) → ∀ (i : Nat) (n : Int), 1 ≤ n → n ≤ most → l.drop i = m →
    ev (q33b0a (iv (i : Int)) (iv n) (iv most) A B C (tys l)) = some (0, [A, B, C, tys l, iv (cntL m most n)])
  | [], hB, i, n, hn1, hn2, hd => by
    have hi := drop_nil hd
    refine Evl.of ?_
    rw [h33b0a, g33b0a, cntL]
    simp [lenK_tys, hi]
  | t :: m, hB, i, n, hn1, hn2, hd => by
    obtain ⟨a1, a2, a3⟩ := drop_cons hd
    have hin : i < l.length := by omega
    have e0 := wrap1 hin hb
    have e1 : ((i + 1 : Nat) : Int) = (i : Int) + 1 := by omega
    refine Evl.of ?_
    rw [h33b0a, g33b0a, cntL]
    by_cases hlt : n < most
    · have h1 := hB t List.mem_cons_self (most - n) (by omega) (by omega)
      have hb1 := cnt_b t (most - n) (by omega)
      have e2 : IntKind.i64.wrap (most - n) = most - n := by rw [IntKind.wrap_i64]; omega
      have e3 : IntKind.i64.wrap (n + cntF t (most - n)) = n + cntF t (most - n) := by rw [IntKind.wrap_i64]; omega
      have ih := cnt_l l hb A B C most h1m hm m (fun t ht => hB t (List.mem_cons_of_mem _ ht)) (i + 1) (n + cntF t (most - n)) (by omega) (by omega) a3
      rw [e1] at ih
      simp [lenK_tys, hin, hlt, idxK_tys a1, e2, h1, e3, e0, ih]
    · simp [lenK_tys, hin, hlt]
theorem cnt_ev {t : Ty} (h : Fit t) : CntE t := by
  induction h with
  | @mk k s n ks hl hk ih =>
    intro most h1m hm
    have h1 := cnt_l ks hl (iv k) (sv s) (iv n) most h1m hm ks ih 0 1 (by omega) h1m rfl
    simp only [Int.ofNat_zero, Int.natCast_zero] at h1
    rw [cntF]
    simp only [Ty.kind_mk, Ty.name_mk, Ty.n_mk, Ty.kids_mk]
    refine Evl.of ?_
    rw [h33, g33]
    by_cases hk1 : k = 1
    · subst hk1
      by_cases h0 : ks = []
      · subst h0
        by_cases hn : n = 0
        · subst hn
          simp [lenK_tys] at h1 ⊢
          simp [h1]
        · simp [lenK_tys, hn]
      · have hlen : 0 < ks.length := List.length_pos_iff.2 h0
        simp [lenK_tys, h0, hlen]
    · simp [hk1, h1]
def smallT (t : Ty) : Bool := decide (cntF t 41 ≤ 40)
theorem smallT_ev {t : Ty} (h : Fit t) : ev (q21 (iv t.kind) (sv t.name) (iv t.n) (tys t.kids) (iv 40)) = some (0, [bv (smallT t)]) := Evl.of (by
  have h1 := cnt_ev h 41 (by omega) (by omega)
  have e : IntKind.i64.wrap 41 = 41 := by rw [IntKind.wrap_i64]; rfl
  rw [h21, g21]
  unfold smallT
  by_cases hc : cntF t 41 ≤ 40
  · simp [e, h1, hc]
  · simp [e, h1, hc])
/-! Pairs that are asked. -/
def smallP (p : Pr) : Bool := plainF p.a && plainF p.b && smallT p.a && smallT p.b
def FitP (p : Pr) : Prop := Fit p.a ∧ Fit p.b
def smallF (l : List Pr) : Bool := l.all smallP && decide (l.length ≤ 12)
theorem small_l (l : List Pr) (hb : l.length ≤ 9223372036854775807) (X : PV) : ∀ (m : List Pr), (∀ p ∈ m, FitP p) → ∀ (i : Nat), l.drop i = m →
    ev (q6b0a (iv (i : Int)) (iv l.length) (prs l) X) = some (if m.all smallP then (1, [X]) else (0, [bv false]))
  | [], hB, i, hd => by
    have hi := drop_nil hd
    refine Evl.of ?_
    rw [h6b0a, g6b0a]
    simp [hi]
  | p :: m, hB, i, hd => by
    obtain ⟨a1, a2, a3⟩ := drop_cons hd
    have hin : i < l.length := by omega
    have e0 := wrap1 hin hb
    have e1 : ((i + 1 : Nat) : Int) = (i : Int) + 1 := by omega
    obtain ⟨fa, fb⟩ := hB p List.mem_cons_self
    have p1 : ev _ = _ := plain_ev fa
    have p2 : ev _ = _ := plain_ev fb
    have p3 := smallT_ev fa
    have p4 := smallT_ev fb
    have ih := small_l l hb X m (fun t ht => hB t (List.mem_cons_of_mem _ ht)) (i + 1) a3
    rw [e1] at ih
    refine Evl.of ?_
    rw [h6b0a, g6b0a, List.all_cons, smallP]
    cases q1 : plainF p.a <;> rw [q1] at p1
    · simp [hin, idxK_prs a1, p1]
    cases q2 : plainF p.b <;> rw [q2] at p2
    · simp [hin, idxK_prs a1, p1, p2]
    cases q3 : smallT p.a <;> rw [q3] at p3
    · simp [hin, idxK_prs a1, p1, p2, p3]
    cases q4 : smallT p.b <;> rw [q4] at p4
    · simp [hin, idxK_prs a1, p1, p2, p3, p4]
    · simp [hin, idxK_prs a1, p1, p2, p3, p4, e0, ih]
theorem small_ev (l : List Pr) (hb : l.length ≤ 9223372036854775807) (hf : ∀ p ∈ l, FitP p) : ev (q6 (prs l)) = some (0, [bv (smallF l)]) := Evl.of (by
  have h1 := small_l l hb (prs l) l hf 0 rfl
  simp only [Int.ofNat_zero, Int.natCast_zero] at h1
  rw [h6, g6]
  unfold smallF
  cases hp : l.all smallP <;> rw [hp] at h1
  · simp [lenK_prs] at h1 ⊢
    simp [h1]
  · by_cases hc : l.length ≤ 12
    · have hc' : (l.length : Int) ≤ 12 := by omega
      simp [lenK_prs] at h1 ⊢
      simp [h1, hc, hc']
    · have hc' : ¬ (l.length : Int) ≤ 12 := by omega
      simp [lenK_prs] at h1 ⊢
      simp [h1, hc, hc'])
/-! The same type. -/
def SameE (t : Ty) : Prop := ev (q8 (iv t.kind) (sv t.name) (iv t.n) (tys t.kids) (iv t.kind) (sv t.name) (iv t.n) (tys t.kids)) = some (0, [bv true])
theorem same_l (l : List Ty) (hb : l.length ≤ 9223372036854775807) : ∀ (m : List Ty), (∀ t ∈ m, SameE t) → ∀ (i : Nat), l.drop i = m →
    ev (q25b0a (iv (i : Int)) (tys l) (tys l)) = some (1, [])
  | [], hB, i, hd => by
    have hi := drop_nil hd
    refine Evl.of ?_
    rw [h25b0a, g25b0a]
    simp [lenK_tys, hi]
  | t :: m, hB, i, hd => by
    obtain ⟨a1, a2, a3⟩ := drop_cons hd
    have hin : i < l.length := by omega
    have e0 := wrap1 hin hb
    have e1 : ((i + 1 : Nat) : Int) = (i : Int) + 1 := by omega
    have h1 : ev _ = _ := hB t List.mem_cons_self
    have ih := same_l l hb m (fun t ht => hB t (List.mem_cons_of_mem _ ht)) (i + 1) a3
    rw [e1] at ih
    refine Evl.of ?_
    rw [h25b0a, g25b0a]
    simp [lenK_tys, hin, idxK_tys a1, h1, e0, ih]
theorem same_ev {t : Ty} (h : Fit t) : SameE t := by
  induction h with
  | @mk k s n ks hl hk ih =>
    have h1 := same_l ks hl ks ih 0 rfl
    simp only [Int.ofNat_zero, Int.natCast_zero] at h1
    have h2 : ev (q25 (tys ks) (tys ks)) = some (0, [bv true]) := Evl.of (by
      rw [h25, g25]
      simp [lenK_tys, h1])
    unfold SameE
    simp only [Ty.kind_mk, Ty.name_mk, Ty.n_mk, Ty.kids_mk]
    refine Evl.of ?_
    rw [h8, g8]
    simp [h2]
/-! The law's own loops. -/
/-! How many types a type has. -/
mutual
def szF : Ty → Nat
  | .mk _ _ _ ks => 1 + szL ks
def szL : List Ty → Nat
  | [] => 0
  | t :: l => szF t + szL l
end
theorem szL_len : ∀ l : List Ty, l.length ≤ szL l
  | [] => Nat.le_refl _
  | .mk k s n ks :: l => by
    have := szL_len l
    rw [szL, szF, List.length_cons]
    omega
theorem szL_mem : ∀ {l : List Ty} {t : Ty}, t ∈ l → szF t ≤ szL l
  | [], t, h => absurd h (by simp)
  | x :: l, t, h => by
    rw [szL]
    rcases List.mem_cons.1 h with rfl | h
    · omega
    · have := szL_mem h; omega
mutual
theorem cnt_sz : ∀ (t : Ty) (most : Int), 1 ≤ most → cntF t most < most → (szF t : Int) ≤ cntF t most
  | .mk k s n ks, most, h, hl => by
    rw [cntF] at hl ⊢
    split at hl
    · omega
    · rename_i hc
      rw [if_neg hc]
      have := cntl_sz ks most 1 h (by omega) (by have := (cntl_b ks most 1 h (by omega) (by omega)).1; omega) hl
      rw [szF]
      omega
theorem cntl_sz : ∀ (l : List Ty) (most n : Int), 1 ≤ most → 1 ≤ n → n ≤ most → cntL l most n < most → n + (szL l : Int) ≤ cntL l most n
  | [], most, n, h, h1, h2, hl => by rw [cntL, szL]; omega
  | t :: l, most, n, h, h1, h2, hl => by
    rw [cntL] at hl ⊢
    split at hl
    · rename_i hlt
      rw [if_pos hlt]
      have b1 := cnt_b t (most - n) (by omega)
      have b2 := cntl_b l most (n + cntF t (most - n)) h (by omega) (by omega)
      have b3 := cntl_sz l most (n + cntF t (most - n)) h (by omega) (by omega) hl
      have b4 := cnt_sz t (most - n) (by omega) (by omega)
      rw [szL]
      omega
    · omega
end
theorem small_sz {t : Ty} (h : smallT t = true) : szF t ≤ 40 := by
  have h1 : cntF t 41 ≤ 40 := by simpa [smallT] using h
  have := cnt_sz t 41 (by omega) (by omega)
  omega
mutual
theorem few_sz : ∀ (t : Ty), szF t ≤ 1000000 → Few t
  | .mk k s n ks, h => by
    rw [szF] at h
    have := szL_len ks
    exact .mk (by omega) (fewl_sz ks (by omega))
theorem fewl_sz : ∀ (l : List Ty), szL l ≤ 1000000 → ∀ t ∈ l, Few t
  | [], h, t, ht => absurd ht (by simp)
  | x :: l, h, t, ht => by
    rw [szL] at h
    rcases List.mem_cons.1 ht with he | ht
    · rw [he]; exact few_sz x (by omega)
    · exact fewl_sz l (by omega) t ht
end
theorem see_sz (k n : Int) (acc : List Int) : (seeF k n acc).length ≤ acc.length + 1 := by unfold seeF; split <;> simp
mutual
theorem walk_sz : ∀ (t : Ty) (acc : List Int), (walkF t acc).length ≤ acc.length + szF t
  | .mk k s n ks, acc => by
    rw [walkF, szF]
    have := walkl_sz ks (seeF k n acc)
    have := see_sz k n acc
    omega
theorem walkl_sz : ∀ (l : List Ty) (acc : List Int), (walkL l acc).length ≤ acc.length + szL l
  | [], acc => by rw [walkL]; omega
  | t :: l, acc => by
    rw [walkL, szL]
    have := walkl_sz l (walkF t acc)
    have := walk_sz t acc
    omega
end
theorem mets_sz (t : Ty) : (metsF t).length ≤ szF t := by
  have := walk_sz t []
  simpa [metsF] using this
theorem good_small {p : Pr} (h : smallP p = true) : GoodP p := by
  unfold smallP at h
  simp only [Bool.and_eq_true] at h
  obtain ⟨⟨⟨_, _⟩, h3⟩, h4⟩ := h
  have h3 := small_sz h3
  have h4 := small_sz h4
  have m1 := mets_sz p.a
  have m2 := mets_sz p.b
  exact ⟨few_sz _ (by omega), few_sz _ (by omega), by omega, by omega⟩
/-! What holds of all that is bound. -/
structure InvB (b : Bd) : Prop where
  few : ∀ x ∈ b, Few x.2
  dec : ∀ x ∈ b, x.2.kind = 2 → x.2.n < x.1
theorem bget_mem {b : Bd} {n : Int} {t : Ty} (h : bget b n = some t) : (n, t) ∈ b := by
  unfold bget at h
  obtain ⟨y, hy, rfl⟩ := Option.map_eq_some_iff.1 h
  have h1 := List.mem_of_find?_eq_some hy
  have h2 := List.find?_some hy
  have h3 : y.1 = n := by simpa [isN] using h2
  rw [← h3]; exact h1
def below (b : Bd) (n : Int) : Nat := (b.filter fun x => decide (x.1 ≤ n)).length
theorem below_le (b : Bd) (n : Int) : below b n ≤ b.length := List.length_filter_le _ _
theorem below_lt : ∀ {b : Bd} {n m : Int} {t : Ty}, (n, t) ∈ b → m < n → below b m < below b n
  | [], _, _, _, h, _ => absurd h (by simp)
  | x :: b, n, m, t, h, hlt => by
    have hmono : ∀ (c : Bd), below c m ≤ below c n := fun c => by
      induction c with
      | nil => exact Nat.le_refl _
      | cons y c ih =>
        unfold below at ih ⊢
        rw [List.filter_cons, List.filter_cons]
        by_cases h1 : y.1 ≤ m
        · have h2 : y.1 ≤ n := by omega
          simp [h1, h2]; exact ih
        · by_cases h2 : y.1 ≤ n
          · simp [h1, h2]; omega
          · simp [h1, h2]; exact ih
    rcases List.mem_cons.1 h with rfl | h
    · have := hmono b
      unfold below at this ⊢
      rw [List.filter_cons, List.filter_cons]
      have h1 : ¬ n ≤ m := by omega
      simp [h1]; omega
    · have ih := below_lt h hlt
      unfold below at ih ⊢
      rw [List.filter_cons, List.filter_cons]
      by_cases h1 : x.1 ≤ m
      · have h2 : x.1 ≤ n := by omega
        simp [h1, h2]; exact ih
      · by_cases h2 : x.1 ≤ n
        · simp [h1, h2]; omega
        · simp [h1, h2]; exact ih
theorem head_some {b : Bd} (hb : InvB b) : ∀ (f : Nat) (t : Ty), below b t.n + 1 ≤ f → Few t → ∃ u, headF f b t = some u ∧ Few u
  | 0, t, h, _ => by omega
  | f + 1, t, h, ht => by
    rw [headF]
    by_cases h2 : t.kind = 2
    · rw [if_pos h2]
      cases hg : bget b t.n with
      | none => exact ⟨t, rfl, ht⟩
      | some x =>
        simp only
        have hm := bget_mem hg
        by_cases hk : x.kind = 2
        · have hlt : x.n < t.n := hb.dec _ hm hk
          have := below_lt hm hlt
          exact head_some hb f x (by omega) (hb.few _ hm)
        · cases f with
          | zero =>
            have := below_lt (m := t.n - 1) hm (by omega)
            omega
          | succ f => exact ⟨x, by rw [headF, if_neg hk], hb.few _ hm⟩
    · rw [if_neg h2]; exact ⟨t, rfl, ht⟩
theorem head_some' {b : Bd} (hb : InvB b) {f : Nat} {t : Ty} (h : b.length + 1 ≤ f) (ht : Few t) : ∃ u, headF f b t = some u ∧ Few u := head_some hb f t (by have := below_le b t.n; omega) ht
theorem step_n {st : Int} (h0 : 0 ≤ st) (h : st ≤ 4000000000000) : stepI st = st + 1 := by unfold stepI; rw [IntKind.wrap_i64]; omega
/-- What a search may add to the steps. -/
def upS (st : Int) : Int := if st < 1048576 then 1048577 + 1000000 * (1048576 - st) else st + 1
def OccS (b : Bd) (f : Nat) (g : Ty → Int → Option (Bool × Int)) : Prop := ∀ (t : Ty) (st : Int), Few t → 0 ≤ st → st ≤ 3000000000000 → (1048576 - st).toNat + b.length + 2 ≤ f → ∃ r st', g t st = some (r, st') ∧ st < st' ∧ st' ≤ upS st
theorem occl_some {b : Bd} {f : Nat} {g : Ty → Int → Option (Bool × Int)} (hg : OccS b f g) (s1 : Int) (h1 : 0 ≤ s1) (h2 : s1 ≤ 1048576) (hf : (1048576 - s1).toNat + b.length + 2 ≤ f) : ∀ (l : List Ty) (st : Int), (∀ t ∈ l, Few t) → l.length ≤ 1000000 → s1 ≤ st → st + l.length ≤ 2000000000000 →
    ∃ r st', occF.occL g l st = some (r, st') ∧ st ≤ st' ∧ st' ≤ max st (1048577 + 1000000 * (1048576 - s1)) + l.length
  | [], st, hl, hn, hs, hu => ⟨false, st, rfl, Int.le_refl _, by simp; omega⟩
  | t :: l, st, hl, hn, hs, hu => by
    rw [List.length_cons] at hn hu
    obtain ⟨r, st', e, a1, a2⟩ := hg t st (hl t List.mem_cons_self) (by omega) (by omega) (by omega)
    rw [occF.occL, e]
    have hup : st' ≤ max (st + 1) (1048577 + 1000000 * (1048576 - s1)) := by
      unfold upS at a2
      split at a2 <;> omega
    cases r with
    | true =>
      refine ⟨true, st', rfl, by omega, ?_⟩
      rw [List.length_cons]
      omega
    | false =>
      by_cases hq : st' + l.length ≤ 2000000000000
      · obtain ⟨r', st'', e', c1, c2⟩ := occl_some hg s1 h1 h2 hf l st' (fun t ht => hl t (List.mem_cons_of_mem _ ht)) (by omega) (by omega) hq
        refine ⟨r', st'', e', by omega, ?_⟩
        rw [List.length_cons]
        omega
      · omega
theorem occ_some {b : Bd} (hb : InvB b) (n : Int) : ∀ (f : Nat), OccS b f (occF b n f)
  | 0 => fun t st _ _ _ h => by omega
  | f + 1 => fun t st ht h0 h1 hf => by
    obtain ⟨u, hu, fu⟩ := head_some' hb (f := f) (t := t) (by omega) ht
    rw [occF, hu]
    simp only
    have hs := step_n h0 (by omega)
    rw [hs]
    by_cases hm : st + 1 ≤ maxS
    · rw [if_pos hm]
      have hm' : st + 1 ≤ 1048576 := hm
      have hupS : upS st = 1048577 + 1000000 * (1048576 - st) := by unfold upS; rw [if_pos (by omega)]
      by_cases h2 : u.kind = 2
      · rw [if_pos h2]
        exact ⟨_, _, rfl, by omega, by rw [hupS]; omega⟩
      · rw [if_neg h2, if_pos fu.len]
        obtain ⟨r, st', e, c1, c2⟩ := occl_some (occ_some hb n f) (st + 1) (by omega) hm' (by omega) u.kids (st + 1) fu.kid fu.len (by omega) (by have := fu.len; omega)
        refine ⟨r, st', e, by omega, ?_⟩
        have := fu.len
        rw [hupS]
        omega
    · rw [if_neg hm]
      have hm' : ¬ st + 1 ≤ 1048576 := hm
      refine ⟨_, _, rfl, by omega, ?_⟩
      unfold upS
      split <;> omega
structure InvS (s : St) : Prop where
  b : InvB s.b
  same : Same s
  le : (s.b.length : Int) ≤ s.st
  cap : s.b.length ≤ 1048576
theorem upS_top {st : Int} (h0 : 0 ≤ st) (h : st ≤ 1048576) : upS st ≤ 1100000000000 := by unfold upS; split <;> omega
theorem meta_some {f : Nat} {a b : Ty} {s : St} (hi : InvS s) (hl : (s.b.length : Int) + 1 ≤ s.st) (hs : s.st ≤ 1048576) (ha : Few a) (hb : Few b) (hk : a.kind = 2) (hno : b.kind = 2 → b.n ≤ a.n)
    (hf : (1048576 - s.st).toNat + s.b.length + 2 ≤ f) : ∃ r s', metaF f a b s = some (r, s') ∧ InvS s' ∧ s.st ≤ s'.st ∧ s'.st ≤ 1100000000000 := by
  unfold metaF
  have h0 : 0 ≤ s.st := by omega
  by_cases hc : b.kind = 2 ∧ b.n = a.n
  · rw [if_pos hc]
    exact ⟨true, s, rfl, hi, Int.le_refl _, by omega⟩
  · rw [if_neg hc]
    obtain ⟨r, st', e, c1, c2⟩ := occ_some hi.b a.n f b s.st hb h0 (by omega) hf
    have htop := upS_top h0 hs
    rw [e]
    cases r with
    | true => exact ⟨false, _, rfl, ⟨hi.b, hi.same, by show (s.b.length : Int) ≤ st'; omega, hi.cap⟩, by show s.st ≤ st'; omega, by show st' ≤ _; omega⟩
    | false =>
      have hsm : s.b.length = s.tr.length := hi.same
      have htl : s.tr.length ≤ 1000000000 := by have := hi.cap; omega
      simp only
      rw [if_pos htl]
      refine ⟨true, _, rfl, ⟨⟨?_, ?_⟩, ?_, ?_, ?_⟩, ?_, ?_⟩
      · intro x hx
        rcases List.mem_append.1 hx with hx | hx
        · exact hi.b.few x hx
        · rw [List.mem_singleton.1 hx]; exact hb
      · intro x hx
        rcases List.mem_append.1 hx with hx | hx
        · exact hi.b.dec x hx
        · rw [List.mem_singleton.1 hx]
          intro hk2
          have := hno hk2
          have hne : ¬ b.n = a.n := fun e => hc ⟨hk2, e⟩
          show b.n < a.n
          omega
      · show (s.b ++ [(a.n, b)]).length = (s.tr ++ [a.n]).length
        simp [hsm]
      · show (((s.b ++ [(a.n, b)]).length : Nat) : Int) ≤ st'
        simp; omega
      · show (s.b ++ [(a.n, b)]).length ≤ 1048576
        simp; omega
      · show s.st ≤ st'; omega
      · show st' ≤ _; omega
def UniS (f : Nat) (g : Ty → Ty → St → Option (Bool × St)) : Prop := ∀ (x y : Ty) (s : St), Few x → Few y → InvS s → s.st ≤ 1100000000000 → (1048576 - s.st).toNat + 1048579 ≤ f →
  ∃ r s', g x y s = some (r, s') ∧ InvS s' ∧ s.st ≤ s'.st ∧ s'.st ≤ 1100000000001 ∧ (r = true → s'.st ≤ 1100000000000)
theorem kids_some {f : Nat} {g : Ty → Ty → St → Option (Bool × St)} (hg : UniS f g) : ∀ (l m : List Ty) (s : St), (∀ t ∈ l, Few t) → (∀ t ∈ m, Few t) → InvS s → s.st ≤ 1100000000000 → (1048576 - s.st).toNat + 1048579 ≤ f →
    ∃ r s', kidsF g l m s = some (r, s') ∧ InvS s' ∧ s.st ≤ s'.st ∧ s'.st ≤ 1100000000001 ∧ (r = true → s'.st ≤ 1100000000000)
  | [], _, s, _, _, hi, hs, _ => ⟨true, s, by simp [kidsF], hi, Int.le_refl _, by omega, fun _ => hs⟩
  | _ :: _, [], s, _, _, hi, hs, _ => ⟨true, s, by simp [kidsF], hi, Int.le_refl _, by omega, fun _ => hs⟩
  | x :: l, y :: m, s, hl, hm, hi, hs, hf => by
    obtain ⟨r, s', e, c1, c2, c3, c4⟩ := hg x y s (hl x List.mem_cons_self) (hm y List.mem_cons_self) hi hs hf
    rw [kidsF, e]
    cases r with
    | false => exact ⟨false, s', rfl, c1, c2, c3, c4⟩
    | true =>
      obtain ⟨r2, s2, e2, d1, d2, d3, d4⟩ := kids_some hg l m s' (fun t ht => hl t (List.mem_cons_of_mem _ ht)) (fun t ht => hm t (List.mem_cons_of_mem _ ht)) c1 (c4 rfl) (by omega)
      exact ⟨r2, s2, e2, d1, by omega, d3, d4⟩
theorem unif_some : ∀ (f : Nat), UniS f (unifF f)
  | 0 => fun x y s _ _ _ _ h => by omega
  | f + 1 => fun x y s hx hy hi hs hf => by
    have hcap := hi.cap
    have hle := hi.le
    obtain ⟨a, ha, fa⟩ := head_some' hi.b (f := f) (t := x) (by omega) hx
    obtain ⟨b, hb, fb⟩ := head_some' hi.b (f := f) (t := y) (by omega) hy
    have h0 : 0 ≤ s.st := by omega
    have hst := step_n h0 (by omega)
    rw [unifF, ha, hb]
    simp only
    have hi' : InvS s.step := ⟨hi.b, hi.same, by show (s.b.length : Int) ≤ stepI s.st; omega, hi.cap⟩
    have hst' : s.step.st = s.st + 1 := hst
    have hbl : s.step.b = s.b := rfl
    have hend : ∃ r s', (some (false, s.step) : Option (Bool × St)) = some (r, s') ∧ InvS s' ∧ s.st ≤ s'.st ∧ s'.st ≤ 1100000000001 ∧ (r = true → s'.st ≤ 1100000000000) :=
      ⟨false, s.step, rfl, hi', by omega, by omega, fun h => by cases h⟩
    rw [hst]
    by_cases hm : s.st + 1 ≤ maxS
    · rw [if_pos hm]
      have hm' : s.st + 1 ≤ 1048576 := hm
      by_cases hA : a.kind = 2 ∧ ¬ (b.kind = 2 ∧ b.n > a.n)
      · rw [if_pos hA]
        obtain ⟨r, s', e, c1, c2, c3⟩ := meta_some (f := f) (a := a) (b := b) hi' (by rw [hbl]; omega) (by omega) fa fb hA.1 (fun hk => by
          have := hA.2; by_cases hg : b.n > a.n
          · exact absurd ⟨hk, hg⟩ this
          · omega) (by rw [hbl]; omega)
        exact ⟨r, s', e, c1, by omega, by omega, fun _ => c3⟩
      · rw [if_neg hA]
        by_cases hb2 : b.kind = 2
        · rw [if_pos hb2]
          obtain ⟨r, s', e, c1, c2, c3⟩ := meta_some (f := f) (a := b) (b := a) hi' (by rw [hbl]; omega) (by omega) fb fa hb2 (fun hk => by
            by_cases hg : b.n > a.n
            · omega
            · exact absurd ⟨hk, fun e => hg e.2⟩ hA) (by rw [hbl]; omega)
          exact ⟨r, s', e, c1, by omega, by omega, fun _ => c3⟩
        · rw [if_neg hb2]
          by_cases hc : b.kind = a.kind ∧ b.name = a.name ∧ b.n = a.n
          · rw [if_pos hc]
            by_cases hlen : b.kids.length = a.kids.length
            · rw [if_pos hlen, if_pos fb.len]
              obtain ⟨r, s', e, c1, c2, c3, c4⟩ := kids_some (unif_some f) b.kids a.kids s.step fb.kid fa.kid hi' (by omega) (by omega)
              exact ⟨r, s', e, c1, by omega, c3, c4⟩
            · rw [if_neg hlen]; exact hend
          · rw [if_neg hc]; exact hend
    · rw [if_neg hm]; exact hend
def upP (pa : Int) : Int := if pa < 5000 then 5001 + 1000000 * (5000 - pa) else pa + 1
def AppS (b : Bd) (f : Nat) (g : Ty → Int → Int → Option (Ty × Int × Int)) : Prop := ∀ (t : Ty) (st pa : Int), Few t → 0 ≤ st → 0 ≤ pa → st ≤ pa + 2000000 → pa ≤ 20000000000 → (5000 - pa).toNat + b.length + 2 ≤ f →
  ∃ u st' pa', g t st pa = some (u, st', pa') ∧ Few u ∧ st ≤ st' ∧ pa < pa' ∧ pa' ≤ upP pa ∧ st' - pa' ≤ st - pa
theorem appl_some {b : Bd} {f : Nat} {g : Ty → Int → Int → Option (Ty × Int × Int)} (hg : AppS b f g) (p1 : Int) (h1 : 0 ≤ p1) (h2 : p1 ≤ 5000) (hf : (5000 - p1).toNat + b.length + 2 ≤ f) : ∀ (l : List Ty) (st pa : Int), (∀ t ∈ l, Few t) → l.length ≤ 1000000 → 0 ≤ st → p1 ≤ pa → st ≤ pa + 2000000 → pa + l.length ≤ 10000000000 →
    ∃ r st' pa', appF.appL g l st pa = some (r, st', pa') ∧ (∀ t ∈ r, Few t) ∧ r.length = l.length ∧ st ≤ st' ∧ pa ≤ pa' ∧ pa' ≤ max pa (5001 + 1000000 * (5000 - p1)) + l.length ∧ st' - pa' ≤ st - pa
  | [], st, pa, hl, hn, h0, hs, hq, hu => ⟨[], st, pa, rfl, fun t ht => absurd ht (by simp), rfl, Int.le_refl _, Int.le_refl _, by simp; omega, Int.le_refl _⟩
  | t :: l, st, pa, hl, hn, h0, hs, hq, hu => by
    rw [List.length_cons] at hn hu
    obtain ⟨u, st', pa', e, a1, a2, a3, a4, a5⟩ := hg t st pa (hl t List.mem_cons_self) h0 (by omega) (by omega) (by omega) (by omega)
    rw [appF.appL, e]
    have hup : pa' ≤ max (pa + 1) (5001 + 1000000 * (5000 - p1)) := by
      unfold upP at a4
      split at a4 <;> omega
    obtain ⟨r, st'', pa'', e', c1, c2, c3, c4, c5, c6⟩ := appl_some hg p1 h1 h2 hf l st' pa' (fun t ht => hl t (List.mem_cons_of_mem _ ht)) (by omega) (by omega) (by omega) (by omega) (by omega)
    refine ⟨u :: r, st'', pa'', by simp only [e'], ?_, by simp [c2], by omega, by omega, ?_, by omega⟩
    · intro x hx
      rcases List.mem_cons.1 hx with hx | hx
      · rw [hx]; exact a1
      · exact c1 x hx
    · rw [List.length_cons]; omega
theorem app_some {b : Bd} (hb : InvB b) : ∀ (f : Nat), AppS b f (appF b f)
  | 0 => fun t st pa _ _ _ _ _ h => by omega
  | f + 1 => fun t st pa ht h0 hp0 hst hpa hf => by
    obtain ⟨u, hu, fu⟩ := head_some' hb (f := f) (t := t) (by omega) ht
    have e1 : IntKind.i64.wrap (pa + 1) = pa + 1 := by rw [IntKind.wrap_i64]; omega
    have e2 := step_n h0 (by omega)
    rw [appF, hu]
    simp only
    rw [e1, e2]
    by_cases hp : pa + 1 > 5000
    · rw [if_pos hp]
      refine ⟨_, _, _, rfl, fu, Int.le_refl _, by omega, ?_, by omega⟩
      unfold upP; split <;> omega
    · rw [if_neg hp]
      have hupP : upP pa = 5001 + 1000000 * (5000 - pa) := by unfold upP; rw [if_pos (by omega)]
      by_cases hm : st + 1 ≤ maxS
      · rw [if_pos hm, if_pos fu.len]
        have := fu.len
        obtain ⟨r, st', pa', e, c1, c2, c3, c4, c5, c6⟩ := appl_some (app_some hb f) (pa + 1) (by omega) (by omega) (by omega) u.kids (st + 1) (pa + 1) fu.kid fu.len (by omega) (by omega) (by omega) (by omega)
        rw [e]
        refine ⟨_, _, _, rfl, .mk (by omega) c1, by omega, by omega, ?_, by omega⟩
        rw [hupP]; omega
      · rw [if_neg hm]
        refine ⟨_, _, _, rfl, fu, by omega, by omega, ?_, by omega⟩
        rw [hupP]; omega
theorem few_mT (n : Int) : Few (mT n) := .mk (by simp) (fun t ht => absurd ht (by simp))
theorem inv_s00 : InvS s00 := ⟨⟨fun x hx => absurd hx (by simp [s00]), fun x hx => absurd hx (by simp [s00])⟩, rfl, by simp [s00], by simp [s00]⟩
theorem kids_comm {g : Ty → Ty → St → Option (Bool × St)} (hg : ∀ x y s, g x y s = g y x s) : ∀ (l m : List Ty) (s : St), kidsF g l m s = kidsF g m l s
  | [], [], s => rfl
  | [], _ :: _, s => rfl
  | _ :: _, [], s => rfl
  | x :: l, y :: m, s => by
    rw [kidsF, kidsF, hg x y s]
    cases g y x s with
    | none => rfl
    | some q =>
      obtain ⟨r, s'⟩ := q
      cases r with
      | false => rfl
      | true => exact kids_comm hg l m s'
theorem meta_one {f : Nat} {a b : Ty} {s : St} (h1 : a.kind = 2) (h2 : b.kind = 2) (h : a.n = b.n) : metaF f a b s = metaF f b a s := by
  unfold metaF
  rw [if_pos ⟨h2, h.symm⟩, if_pos ⟨h1, h⟩]
theorem unif_comm : ∀ (f : Nat) (x y : Ty) (s : St), unifF f x y s = unifF f y x s
  | 0, _, _, _ => rfl
  | f + 1, x, y, s => by
    rw [unifF, unifF]
    cases headF f s.b x with
    | none => cases headF f s.b y <;> rfl
    | some a =>
      cases headF f s.b y with
      | none => rfl
      | some b =>
        simp only
        by_cases hm : stepI s.st ≤ maxS
        · rw [if_pos hm, if_pos hm]
          by_cases ha : a.kind = 2
          · by_cases hb : b.kind = 2
            · by_cases h1 : b.n > a.n
              · rw [if_neg (fun e => e.2 ⟨hb, h1⟩), if_pos hb, if_pos ⟨hb, fun e => by have := e.2; omega⟩]
              · by_cases h2 : a.n > b.n
                · rw [if_pos ⟨ha, fun e => h1 e.2⟩, if_neg (fun e => e.2 ⟨ha, h2⟩), if_pos ha]
                · rw [if_pos ⟨ha, fun e => h1 e.2⟩, if_pos ⟨hb, fun e => h2 e.2⟩]
                  exact meta_one ha hb (by omega)
            · rw [if_pos ⟨ha, fun e => hb e.1⟩, if_neg (fun e => hb e.1), if_pos ha]
          · by_cases hb : b.kind = 2
            · rw [if_neg (fun e => ha e.1), if_pos hb, if_pos ⟨hb, fun e => ha e.1⟩]
            · rw [if_neg (show ¬ (a.kind = 2 ∧ ¬ (b.kind = 2 ∧ b.n > a.n)) from fun e => ha e.1), if_neg hb, if_neg (show ¬ (b.kind = 2 ∧ ¬ (a.kind = 2 ∧ a.n > b.n)) from fun e => hb e.1), if_neg ha]
              by_cases hc : b.kind = a.kind ∧ b.name = a.name ∧ b.n = a.n
              · rw [if_pos hc, if_pos (show a.kind = b.kind ∧ a.name = b.name ∧ a.n = b.n from ⟨hc.1.symm, hc.2.1.symm, hc.2.2.symm⟩)]
                by_cases hl : b.kids.length = a.kids.length
                · rw [if_pos hl, if_pos (show a.kids.length = b.kids.length from hl.symm), hl]
                  rw [kids_comm (fun x y s => unif_comm f x y s)]
                · rw [if_neg hl, if_neg (show ¬ a.kids.length = b.kids.length from fun e => hl e.symm)]
              · rw [if_neg hc, if_neg (show ¬ (a.kind = b.kind ∧ a.name = b.name ∧ a.n = b.n) from fun e => hc ⟨e.1.symm, e.2.1.symm, e.2.2.symm⟩)]
        · rw [if_neg hm, if_neg hm]
inductive All2 {α β : Type} (R : α → β → Prop) : List α → List β → Prop
  | nil : All2 R [] []
  | cons {a : α} {b : β} {l : List α} {m : List β} : R a b → All2 R l m → All2 R (a :: l) (b :: m)
theorem All2.mono {α β : Type} {R S : α → β → Prop} (h : ∀ a b, R a b → S a b) {l : List α} {m : List β} (k : All2 R l m) : All2 S l m := by
  induction k with
  | nil => exact .nil
  | cons h1 _ ih => exact .cons (h _ _ h1) ih
theorem All2.len {α β : Type} {R : α → β → Prop} {l : List α} {m : List β} (k : All2 R l m) : l.length = m.length := by
  induction k with
  | nil => rfl
  | cons _ _ ih => simp [ih]
theorem All2.map {α β γ : Type} {R : α → β → Prop} {S : α → γ → Prop} {g : β → γ} {l : List α} {m : List β} (k : All2 R l m) (h : ∀ a b, b ∈ m → R a b → S a (g b)) : All2 S l (m.map g) := by
  induction k with
  | nil => exact .nil
  | cons h1 _ ih => exact .cons (h _ _ List.mem_cons_self h1) (ih fun a b hb => h a b (List.mem_cons_of_mem _ hb))
/-! Applied, by fuel. -/
def apL (g : Ty → Option Ty) : List Ty → Option (List Ty)
  | [] => some []
  | t :: l => match g t with
    | none => none
    | some w => match apL g l with
      | none => none
      | some ws => some (w :: ws)
def apX (b : Bd) : Nat → Ty → Option Ty
  | 0, _ => none
  | f + 1, t => match headF f b t with
    | none => none
    | some u => match apL (apX b f) u.kids with
      | none => none
      | some ws => some (.mk u.kind u.name u.n ws)
def Ap (b : Bd) (t w : Ty) : Prop := ∃ f, apX b f t = some w
theorem head_up {b : Bd} : ∀ {f g : Nat} {t u : Ty}, headF f b t = some u → f ≤ g → headF g b t = some u
  | 0, _, _, _, h, _ => by cases h
  | f + 1, 0, _, _, _, h => by omega
  | f + 1, g + 1, t, u, h, hg => by
    rw [headF] at h ⊢
    by_cases h2 : t.kind = 2
    · rw [if_pos h2] at h ⊢
      cases hb : bget b t.n with
      | some v => rw [hb] at h; simp only at h ⊢; exact head_up h (by omega)
      | none => rw [hb] at h; exact h
    · rw [if_neg h2] at h ⊢; exact h
theorem head_det {b : Bd} {f g : Nat} {t u v : Ty} (h : headF f b t = some u) (k : headF g b t = some v) : u = v := by
  have h1 := head_up h (Nat.le_max_left f g)
  have h2 := head_up k (Nat.le_max_right f g)
  rw [h1] at h2
  exact Option.some.inj h2
theorem apL_up {g g' : Ty → Option Ty} (h : ∀ t w, g t = some w → g' t = some w) : ∀ {l ws : List Ty}, apL g l = some ws → apL g' l = some ws
  | [], ws, k => k
  | t :: l, ws, k => by
    rw [apL] at k ⊢
    cases ht : g t with
    | none => rw [ht] at k; cases k
    | some w =>
      rw [ht] at k
      rw [h t w ht]
      cases hl : apL g l with
      | none => rw [hl] at k; cases k
      | some vs => rw [hl] at k; rw [apL_up h hl]; exact k
theorem apX_up {b : Bd} : ∀ {f g : Nat} {t w : Ty}, apX b f t = some w → f ≤ g → apX b g t = some w
  | 0, _, _, _, h, _ => by cases h
  | f + 1, 0, _, _, _, h => by omega
  | f + 1, g + 1, t, w, h, hg => by
    rw [apX] at h ⊢
    cases hh : headF f b t with
    | none => rw [hh] at h; cases h
    | some u =>
      rw [hh] at h
      rw [head_up hh (show f ≤ g by omega)]
      simp only at h ⊢
      cases hl : apL (apX b f) u.kids with
      | none => rw [hl] at h; cases h
      | some ws =>
        rw [hl] at h
        rw [apL_up (fun t w e => apX_up e (show f ≤ g by omega)) hl]
        exact h
theorem Ap.det {b : Bd} {t w w' : Ty} (h : Ap b t w) (k : Ap b t w') : w = w' := by
  obtain ⟨f, h⟩ := h
  obtain ⟨g, k⟩ := k
  have h1 := apX_up h (Nat.le_max_left f g)
  have h2 := apX_up k (Nat.le_max_right f g)
  rw [h1] at h2
  exact Option.some.inj h2
theorem apL_all {b : Bd} {f : Nat} : ∀ {l ws : List Ty}, apL (apX b f) l = some ws → All2 (fun t w => apX b f t = some w) l ws
  | [], ws, h => by cases h; exact .nil
  | t :: l, ws, h => by
    rw [apL] at h
    cases ht : apX b f t with
    | none => rw [ht] at h; cases h
    | some w =>
      rw [ht] at h
      cases hl : apL (apX b f) l with
      | none => rw [hl] at h; cases h
      | some vs => rw [hl] at h; cases h; exact .cons ht (apL_all hl)
theorem Ap.ind {b : Bd} {P : Ty → Ty → Prop} (h : ∀ (t u : Ty) (ws : List Ty) (f : Nat), headF f b t = some u → All2 (fun x w => Ap b x w ∧ P x w) u.kids ws → P t (.mk u.kind u.name u.n ws)) {t w : Ty} (k : Ap b t w) : P t w := by
  obtain ⟨f, k⟩ := k
  have key : ∀ (f : Nat) (t w : Ty), apX b f t = some w → P t w := by
    intro f
    induction f with
    | zero => intro t w k; cases k
    | succ f ih =>
      intro t w k
      rw [apX] at k
      cases hh : headF f b t with
      | none => rw [hh] at k; cases k
      | some u =>
        rw [hh] at k
        simp only at k
        cases hl : apL (apX b f) u.kids with
        | none => rw [hl] at k; cases k
        | some ws =>
          rw [hl] at k
          cases k
          exact h t u ws f hh ((apL_all hl).mono fun x w e => ⟨⟨f, e⟩, ih x w e⟩)
  exact key f t w k
theorem Ap.kids {b : Bd} : ∀ {l ws : List Ty}, All2 (Ap b) l ws → ∃ f, apL (apX b f) l = some ws
  | [], _, .nil => ⟨0, rfl⟩
  | t :: l, _, .cons h1 h2 => by
    obtain ⟨f, hf⟩ := h1
    obtain ⟨g, hg⟩ := Ap.kids h2
    refine ⟨max f g, ?_⟩
    rw [apL, apX_up hf (Nat.le_max_left f g), apL_up (fun t w e => apX_up e (Nat.le_max_right f g)) hg]
theorem Ap.mk {b : Bd} {t u : Ty} {ws : List Ty} {f : Nat} (h : headF f b t = some u) (hk : All2 (Ap b) u.kids ws) : Ap b t (.mk u.kind u.name u.n ws) := by
  obtain ⟨g, hg⟩ := Ap.kids hk
  refine ⟨max f g + 1, ?_⟩
  rw [apX, head_up h (Nat.le_max_left f g)]
  simp only
  rw [apL_up (fun t w e => apX_up e (Nat.le_max_right f g)) hg]
theorem Ap.inv {b : Bd} {t w : Ty} (h : Ap b t w) : ∃ f u, headF f b t = some u ∧ w.kind = u.kind ∧ w.name = u.name ∧ w.n = u.n ∧ All2 (Ap b) u.kids w.kids :=
  Ap.ind (P := fun t w => ∃ f u, headF f b t = some u ∧ w.kind = u.kind ∧ w.name = u.name ∧ w.n = u.n ∧ All2 (Ap b) u.kids w.kids) (fun t u ws f hf hk => ⟨f, u, hf, rfl, rfl, rfl, hk.mono fun _ _ e => e.1⟩) h
theorem Ty.eta (w : Ty) : Ty.mk w.kind w.name w.n w.kids = w := by cases w; rfl
theorem Ap.of_head {b : Bd} {t u w : Ty} {f : Nat} (h : headF f b t = some u) (hw : w.kind = u.kind ∧ w.name = u.name ∧ w.n = u.n) (hk : All2 (Ap b) u.kids w.kids) : Ap b t w := by
  have := Ap.mk h hk
  rw [← hw.1, ← hw.2.1, ← hw.2.2, Ty.eta] at this
  exact this
/-! A wholly applied type stands for itself. -/
theorem Ap.idem {b : Bd} {t w : Ty} (h : Ap b t w) : Ap b w w := by
  refine Ap.ind (P := fun _ w => Ap b w w) (fun t u ws f hf hk => ?_) h
  have hh : headF 1 b (.mk u.kind u.name u.n ws) = some (.mk u.kind u.name u.n ws) := by
    rw [headF]
    by_cases h2 : u.kind = 2
    · rw [if_pos (by simpa using h2)]
      have := head_free hf h2
      simp only [Ty.n_mk]
      rw [this]
    · rw [if_neg (by simpa using h2)]
  refine Ap.of_head hh ⟨rfl, rfl, rfl⟩ ?_
  show All2 (Ap b) ws ws
  have key : ∀ {l ws : List Ty}, All2 (fun x w => Ap b x w ∧ Ap b w w) l ws → All2 (Ap b) ws ws := by
    intro l ws hk
    induction hk with
    | nil => exact .nil
    | cons h1 _ ih => exact .cons h1.2 ih
  exact key hk
/-! Does a meta stand in a type? -/
mutual
def hasM (n : Int) : Ty → Bool
  | .mk k _ m ks => (k = 2 && m = n) || hasMs n ks
def hasMs (n : Int) : List Ty → Bool
  | [] => false
  | t :: l => hasM n t || hasMs n l
end
theorem hasM_eq (n : Int) (t : Ty) : hasM n t = ((t.kind = 2 && t.n = n) || hasMs n t.kids) := by cases t; rw [hasM]; rfl
/-! One more is bound. -/
theorem bget_app {b : Bd} {n : Int} {h : Ty} (m : Int) : bget (b ++ [(n, h)]) m = match bget b m with | some x => some x | none => if m = n then some h else none := by
  unfold bget
  rw [List.find?_append]
  cases hb : b.find? (isN m) with
  | some x => rfl
  | none =>
    by_cases e : m = n
    · subst e
      simp [isN]
    · have e' : ¬ n = m := fun x => e x.symm
      simp [isN, e, e']
theorem head_ext {b : Bd} {n : Int} {h : Ty} (hn : bget b n = none) : ∀ {f : Nat} {t u : Ty}, headF f b t = some u → (u.kind = 2 → u.n ≠ n) → headF f (b ++ [(n, h)]) t = some u
  | 0, _, _, k, _ => by cases k
  | f + 1, t, u, k, hu => by
    rw [headF] at k ⊢
    by_cases h2 : t.kind = 2
    · rw [if_pos h2] at k ⊢
      rw [bget_app]
      cases hb : bget b t.n with
      | some v => rw [hb] at k; simp only at k ⊢; exact head_ext hn k hu
      | none =>
        rw [hb] at k
        cases k
        simp only
        rw [if_neg (hu h2)]
    · rw [if_neg h2] at k ⊢; exact k
theorem head_cont {b : Bd} {n : Int} {h v : Ty} (hn : bget b n = none) {g : Nat} (hg : headF g (b ++ [(n, h)]) h = some v) : ∀ {f : Nat} {t u : Ty}, headF f b t = some u → u.kind = 2 → u.n = n → headF (f + g) (b ++ [(n, h)]) t = some v
  | 0, _, _, k, _, _ => by cases k
  | f + 1, t, u, k, h2, hu => by
    rw [headF] at k
    rw [show f + 1 + g = (f + g) + 1 by omega, headF]
    by_cases ht : t.kind = 2
    · rw [if_pos ht] at k ⊢
      rw [bget_app]
      cases hb : bget b t.n with
      | some x => rw [hb] at k; simp only at k ⊢; exact head_cont hn hg k h2 hu
      | none =>
        rw [hb] at k
        cases k
        simp only
        rw [if_pos hu]
        exact head_up hg (by omega)
    · rw [if_neg ht] at k
      cases k
      exact absurd h2 ht
theorem hasMs_mem {n : Int} : ∀ {l : List Ty}, hasMs n l = false → ∀ t ∈ l, hasM n t = false
  | t :: l, h, x, hx => by
    rw [hasMs, Bool.or_eq_false_iff] at h
    rcases List.mem_cons.1 hx with rfl | hx
    · exact h.1
    · exact hasMs_mem h.2 x hx
theorem All2.imp {α β : Type} {R S : α → β → Prop} {l : List α} {m : List β} (k : All2 R l m) (h : ∀ a b, b ∈ m → R a b → S a b) : All2 S l m := by
  have := k.map (g := fun x => x) h
  simpa using this
theorem Ap.far {b : Bd} {n : Int} {h : Ty} (hn : bget b n = none) {t w : Ty} (k : Ap b t w) (hw : hasM n w = false) : Ap (b ++ [(n, h)]) t w := by
  refine Ap.ind (P := fun t w => hasM n w = false → Ap (b ++ [(n, h)]) t w) (fun t u ws f hf hk hw => ?_) k hw
  rw [hasM, Bool.or_eq_false_iff] at hw
  refine Ap.mk (head_ext hn hf fun h2 e => ?_) (hk.imp fun x w hm e => e.2 (hasMs_mem hw.2 w hm))
  have := hw.1
  simp [h2, e] at this
/-! The reference's way. -/
mutual
def apR (L : Bd) : Ty → Ty
  | .mk k s n ks => if k = 2 then (match bget L n with
      | some u => u
      | none => .mk k s n (apRL L ks)) else .mk k s n (apRL L ks)
def apRL (L : Bd) : List Ty → List Ty
  | [] => []
  | t :: l => apR L t :: apRL L l
end
theorem apRL_map (L : Bd) : ∀ l : List Ty, apRL L l = l.map (apR L)
  | [] => by rw [apRL]; rfl
  | t :: l => by rw [apRL, apRL_map L l]; rfl
theorem apR_eq (L : Bd) (t : Ty) : apR L t = if t.kind = 2 then (match bget L t.n with
    | some u => u
    | none => .mk t.kind t.name t.n (t.kids.map (apR L))) else .mk t.kind t.name t.n (t.kids.map (apR L)) := by
  cases t
  rw [apR, apRL_map]; rfl
theorem bget_one {n : Int} {B : Ty} (m : Int) : bget [(n, B)] m = if m = n then some B else none := by
  have := bget_app (b := []) (n := n) (h := B) m
  simpa [bget] using this
mutual
theorem sub_no {n : Int} {B : Ty} : ∀ w : Ty, hasM n w = false → apR [(n, B)] w = w
  | .mk k s m ks, h => by
    rw [hasM, Bool.or_eq_false_iff] at h
    rw [apR, bget_one, subL_no ks h.2]
    by_cases h2 : k = 2
    · have : ¬ m = n := fun e => by have := h.1; simp [h2, e] at this
      rw [if_pos h2, if_neg this]
    · rw [if_neg h2]
theorem subL_no {n : Int} {B : Ty} : ∀ l : List Ty, hasMs n l = false → apRL [(n, B)] l = l
  | [], _ => by rw [apRL]
  | t :: l, h => by
    rw [hasMs, Bool.or_eq_false_iff] at h
    rw [apRL, sub_no t h.1, subL_no l h.2]
end
theorem Ap.sub {b : Bd} {n : Int} {h B : Ty} (hn : bget b n = none) (hB : Ap b h B) (hno : hasM n B = false) {t w : Ty} (k : Ap b t w) : Ap (b ++ [(n, h)]) t (apR [(n, B)] w) := by
  have hB' := hB.far (h := h) hn hno
  obtain ⟨g, v, hg, e1, e2, e3, e4⟩ := hB'.inv
  refine Ap.ind (P := fun t w => Ap (b ++ [(n, h)]) t (apR [(n, B)] w)) (fun t u ws f hf hk => ?_) k
  rw [apR_eq]
  simp only [Ty.kind_mk, Ty.name_mk, Ty.n_mk, Ty.kids_mk, bget_one]
  by_cases h2 : u.kind = 2
  · rw [if_pos h2]
    by_cases hu : u.n = n
    · rw [if_pos hu]
      exact Ap.of_head (head_cont hn hg hf h2 hu) ⟨e1, e2, e3⟩ e4
    · rw [if_neg hu]
      exact Ap.mk (head_ext hn hf fun _ => hu) (hk.map fun x w _ e => e.2)
  · rw [if_neg h2]
    exact Ap.mk (head_ext hn hf fun e => absurd e h2) (hk.map fun x w _ e => e.2)
/-! The two stores tell one thing. -/
def InvL (b L : Bd) : Prop := ∀ n, match bget b n with
  | none => bget L n = none
  | some t => ∃ w, bget L n = some w ∧ Ap b t w
theorem bget_map (g : Ty → Ty) : ∀ (L : Bd) (n : Int), bget (L.map fun x => (x.1, g x.2)) n = (bget L n).map g
  | [], n => rfl
  | x :: L, n => by
    have ih := bget_map g L n
    unfold bget at ih ⊢
    rw [List.map_cons, List.find?_cons, List.find?_cons]
    have e : isN n (x.1, g x.2) = isN n x := rfl
    rw [e]
    cases isN n x
    · exact ih
    · rfl
theorem InvL.bind {b L : Bd} (hi : InvL b L) {n : Int} {h B : Ty} (hn : bget b n = none) (hB : Ap b h B) (hno : hasM n B = false) : InvL (b ++ [(n, h)]) ((L.map fun x => (x.1, apR [(n, B)] x.2)) ++ [(n, B)]) := fun m => by
  have hm := hi m
  have hnn := hi n
  rw [hn] at hnn
  rw [bget_app, bget_app, bget_map (apR [(n, B)]) L m]
  cases hb : bget b m with
  | some t =>
    rw [hb] at hm
    obtain ⟨w, hw, ha⟩ := hm
    rw [hw]
    exact ⟨_, rfl, Ap.sub hn hB hno ha⟩
  | none =>
    rw [hb] at hm
    simp only at hm
    rw [hm]
    simp only [Option.map_none]
    by_cases e : m = n
    · rw [if_pos e]
      simp only
      rw [if_pos e]
      exact ⟨B, rfl, hB.far hn hno⟩
    · rw [if_neg e]
      simp only
      rw [if_neg e]
/-- Metas have no kids and no names. -/
def PlB (b : Bd) : Prop := ∀ x ∈ b, plainF x.2 = true
theorem plain_kids : ∀ {t : Ty}, plainF t = true → ∀ x ∈ t.kids, plainF x = true := by
  intro t h
  cases t with
  | mk k s n ks =>
    rw [plainF] at h
    have key : ∀ l : List Ty, plainL l = true → ∀ x ∈ l, plainF x = true := by
      intro l
      induction l with
      | nil => intro _ x hx; cases hx
      | cons a l ih =>
        intro hl x hx
        rw [plainL, Bool.and_eq_true] at hl
        rcases List.mem_cons.1 hx with rfl | hx
        · exact hl.1
        · exact ih hl.2 x hx
    simp at h
    exact key ks h.2
theorem plain_meta {t : Ty} (h : plainF t = true) (hk : t.kind = 2) : t.kids = [] ∧ t.name = ⟨#[]⟩ := by
  cases t with
  | mk k s n ks =>
    have hk' : k = 2 := hk
    rw [plainF] at h
    split at h
    · cases h
    · rename_i hc
      refine ⟨?_, ?_⟩
      · show ks = []
        exact Decidable.byContradiction fun e => hc ⟨hk', .inl e⟩
      · show s = ⟨#[]⟩
        exact Decidable.byContradiction fun e => hc ⟨hk', .inr e⟩
theorem plain_head {b : Bd} (hb : PlB b) : ∀ {f : Nat} {t u : Ty}, plainF t = true → headF f b t = some u → plainF u = true
  | 0, _, _, _, h => by cases h
  | f + 1, t, u, ht, h => by
    rw [headF] at h
    by_cases h2 : t.kind = 2
    · rw [if_pos h2] at h
      cases hg : bget b t.n with
      | some v => rw [hg] at h; exact plain_head hb (hb _ (bget_mem hg)) h
      | none => rw [hg] at h; cases h; exact ht
    · rw [if_neg h2] at h; cases h; exact ht
theorem plain_mk {k : Int} {s : ByteArray} {n : Int} {ks : List Ty} (h2 : k = 2 → ks = [] ∧ s = ⟨#[]⟩) (hk : ∀ x ∈ ks, plainF x = true) : plainF (.mk k s n ks) = true := by
  rw [plainF, if_neg]
  · have key : ∀ l : List Ty, (∀ x ∈ l, plainF x = true) → plainL l = true := by
      intro l
      induction l with
      | nil => intro _; rw [plainL]
      | cons a l ih => intro h; rw [plainL, h a List.mem_cons_self, ih fun x hx => h x (List.mem_cons_of_mem _ hx)]; rfl
    exact key ks hk
  · rintro ⟨e, h | h⟩
    · exact h (h2 e).1
    · exact h (h2 e).2
theorem All2.right {α β : Type} {R : α → β → Prop} {l : List α} {m : List β} (k : All2 R l m) : ∀ y ∈ m, ∃ x ∈ l, R x y := by
  induction k with
  | nil => intro y hy; cases hy
  | cons h1 _ ih =>
    intro y hy
    rcases List.mem_cons.1 hy with rfl | hy
    · exact ⟨_, List.mem_cons_self, h1⟩
    · obtain ⟨x, hx, h⟩ := ih y hy
      exact ⟨x, List.mem_cons_of_mem _ hx, h⟩
theorem Ap.plain {b : Bd} (hb : PlB b) {t w : Ty} (h : Ap b t w) (ht : plainF t = true) : plainF w = true := by
  refine Ap.ind (P := fun t w => plainF t = true → plainF w = true) (fun t u ws f hf hk ht => ?_) h ht
  have hu := plain_head hb ht hf
  refine plain_mk (fun h2 => ?_) (fun y hy => ?_)
  · obtain ⟨e1, e2⟩ := plain_meta hu h2
    rw [e1] at hk
    cases hk
    exact ⟨rfl, e2⟩
  · obtain ⟨x, hx, _, h2⟩ := hk.right y hy
    exact h2 (plain_kids hu x hx)
/-- The reference's way gives what a type stands for. -/
theorem apR_ok {b L : Bd} (hb : PlB b) (hi : InvL b L) : ∀ (t : Ty), plainF t = true → Ap b t (apR L t) := by
  have key : ∀ (n : Nat) (t : Ty), szF t ≤ n → plainF t = true → Ap b t (apR L t) := by
    intro n
    induction n with
    | zero =>
      intro t h
      cases t
      rw [szF] at h
      omega
    | succ n ih =>
      intro t h ht
      have hks : ∀ x ∈ t.kids, Ap b x (apR L x) := fun x hx => ih x (by
        cases t with
        | mk k s m ks =>
          rw [szF] at h
          have hx' : x ∈ ks := hx
          have := szL_mem hx'
          omega) (plain_kids ht x hx)
      have hall : All2 (Ap b) t.kids (t.kids.map (apR L)) := by
        have : ∀ l : List Ty, (∀ x ∈ l, Ap b x (apR L x)) → All2 (Ap b) l (l.map (apR L)) := by
          intro l
          induction l with
          | nil => intro _; exact .nil
          | cons a l ih => intro h; exact .cons (h a List.mem_cons_self) (ih fun x hx => h x (List.mem_cons_of_mem _ hx))
        exact this _ hks
      have hm := hi t.n
      rw [apR_eq]
      by_cases h2 : t.kind = 2
      · rw [if_pos h2]
        cases hg : bget b t.n with
        | some x =>
          rw [hg] at hm
          obtain ⟨w, hw, ha⟩ := hm
          rw [hw]
          obtain ⟨f, u, hf, e1, e2, e3, e4⟩ := ha.inv
          exact Ap.of_head (f := f + 1) (by rw [headF, if_pos h2, hg]; exact hf) ⟨e1, e2, e3⟩ e4
        | none =>
          rw [hg] at hm
          simp only at hm
          rw [hm]
          exact Ap.mk (f := 1) (u := t) (by rw [headF, if_pos h2, hg]) hall
      · rw [if_neg h2]
        exact Ap.mk (f := 1) (u := t) (by rw [headF, if_neg h2]) hall
  exact fun t => key (szF t) t (Nat.le_refl _)
theorem Ap.head {b : Bd} {t u w : Ty} {f : Nat} (h : Ap b t w) (hf : headF f b t = some u) : Ap b u w ∧ w.kind = u.kind ∧ w.name = u.name ∧ w.n = u.n ∧ All2 (Ap b) u.kids w.kids := by
  obtain ⟨g, v, hg, e1, e2, e3, e4⟩ := h.inv
  have := head_det hf hg
  subst this
  refine ⟨?_, e1, e2, e3, e4⟩
  refine Ap.of_head (f := 1) (u := u) ?_ ⟨e1, e2, e3⟩ e4
  rw [headF]
  by_cases h2 : u.kind = 2
  · rw [if_pos h2, head_free hf h2]
  · rw [if_neg h2]
/-! The search for a meta. -/
def OccH (b : Bd) (n : Int) (f : Nat) (g : Ty → Int → Option (Bool × Int)) : Prop := ∀ (t w : Ty) (st : Int) (r : Bool) (st' : Int), Few t → plainF t = true → Ap b t w → 0 ≤ st → st ≤ 3000000000000 → (1048576 - st).toNat + b.length + 2 ≤ f → g t st = some (r, st') → st' ≤ maxS → r = hasM n w
theorem occl_has {b : Bd} {n : Int} {f : Nat} {g : Ty → Int → Option (Bool × Int)} (hg : OccS b f g) (hh : OccH b n f g) (s1 : Int) (h1 : 0 ≤ s1) (h2 : s1 ≤ 1048576) (hf : (1048576 - s1).toNat + b.length + 2 ≤ f) : ∀ (l ws : List Ty) (st : Int) (r : Bool) (st' : Int), All2 (Ap b) l ws → (∀ t ∈ l, Few t ∧ plainF t = true) → l.length ≤ 1000000 → s1 ≤ st → st + l.length ≤ 2000000000000 → occF.occL g l st = some (r, st') → st' ≤ maxS → r = hasMs n ws
  | [], _, st, r, st', .nil, _, _, _, _, h, _ => by rw [occF.occL] at h; cases h; rw [hasMs]
  | t :: l, w :: ws, st, r, st', .cons ha hk, hl, hn, hs, hu, h, hm => by
    rw [List.length_cons] at hn hu
    obtain ⟨ft, pt⟩ := hl t List.mem_cons_self
    obtain ⟨r0, st0, e, a1, a2⟩ := hg t st ft (by omega) (by omega) (by omega)
    rw [occF.occL, e] at h
    have hup : st0 ≤ max (st + 1) (1048577 + 1000000 * (1048576 - s1)) := by
      unfold upS at a2
      split at a2 <;> omega
    rw [hasMs]
    cases r0 with
    | true =>
      cases h
      rw [← hh t w st true st' ft pt ha (by omega) (by omega) (by omega) e hm]
      rfl
    | false =>
      have hq : st0 + l.length ≤ 2000000000000 := by omega
      obtain ⟨r', st'', e', c1, c2⟩ := occl_some hg s1 h1 h2 hf l st0 (fun t ht => (hl t (List.mem_cons_of_mem _ ht)).1) (by omega) (by omega) hq
      simp only at h
      have h' := h
      rw [e'] at h'
      cases h'
      rw [← hh t w st false st0 ft pt ha (by omega) (by omega) (by omega) e (by omega)]
      exact occl_has hg hh s1 h1 h2 hf l ws st0 r st' hk (fun t ht => hl t (List.mem_cons_of_mem _ ht)) (by omega) (by omega) hq h hm
theorem few_head {b : Bd} (hb : InvB b) : ∀ {f : Nat} {t u : Ty}, Few t → headF f b t = some u → Few u
  | 0, _, _, _, h => by cases h
  | f + 1, t, u, ht, h => by
    rw [headF] at h
    by_cases h2 : t.kind = 2
    · rw [if_pos h2] at h
      cases hg : bget b t.n with
      | some v => rw [hg] at h; exact few_head hb (hb.few _ (bget_mem hg)) h
      | none => rw [hg] at h; cases h; exact ht
    · rw [if_neg h2] at h; cases h; exact ht
theorem occ_has {b : Bd} (hb : InvB b) (hp : PlB b) (n : Int) : ∀ (f : Nat), OccH b n f (occF b n f)
  | 0 => fun t w st r st' _ _ _ _ _ h => by omega
  | f + 1 => fun t w st r st' ft pt ha h0 h1 hf h hm => by
    rw [occF] at h
    cases hu : headF f b t with
    | none => rw [hu] at h; cases h
    | some u =>
      rw [hu] at h
      simp only at h
      obtain ⟨_, e1, e2, e3, e4⟩ := ha.head hu
      have fu := few_head hb ft hu
      have pu := plain_head hp pt hu
      have hs := step_n h0 (by omega)
      rw [hs] at h
      have hmS : maxS = 1048576 := rfl
      by_cases hm1 : st + 1 ≤ maxS
      · rw [if_pos hm1] at h
        rw [hasM_eq, e1, e3]
        by_cases h2 : u.kind = 2
        · rw [if_pos h2] at h
          cases h
          obtain ⟨k1, _⟩ := plain_meta pu h2
          rw [k1] at e4
          have hk : w.kids = [] := by
            generalize w.kids = ks at e4
            cases e4; rfl
          rw [hk, hasMs]
          simp [h2]
        · rw [if_neg h2, if_pos fu.len] at h
          have hfl := fu.len
          have hr := occl_has (occ_some hb n f) (occ_has hb hp n f) (st + 1) (by omega) (by omega) (by omega) u.kids w.kids (st + 1) r st' e4 (fun x hx => ⟨fu.kid x hx, plain_kids pu x hx⟩) hfl (by omega) (by omega) h hm
          rw [hr]
          simp [h2]
      · rw [if_neg hm1] at h
        cases h
        omega
/-! What stands for one thing is made one without a bind. -/
def EqS (f : Nat) (g : Ty → Ty → St → Option (Bool × St)) : Prop := ∀ (x y w : Ty) (s s' : St) (r : Bool), Few x → Few y → plainF x = true → plainF y = true → InvS s → PlB s.b → Ap s.b x w → Ap s.b y w → s.st ≤ 1100000000000 → (1048576 - s.st).toNat + 1048579 ≤ f → g x y s = some (r, s') → s'.st ≤ maxS → r = true ∧ s'.b = s.b
theorem kids_eq {f : Nat} {g : Ty → Ty → St → Option (Bool × St)} (hg : UniS f g) (hh : EqS f g) : ∀ (l m ws : List Ty) (s s' : St) (r : Bool), (∀ t ∈ l, Few t ∧ plainF t = true) → (∀ t ∈ m, Few t ∧ plainF t = true) → InvS s → PlB s.b → All2 (Ap s.b) l ws → All2 (Ap s.b) m ws → s.st ≤ 1100000000000 → (1048576 - s.st).toNat + 1048579 ≤ f → kidsF g l m s = some (r, s') → s'.st ≤ maxS → r = true ∧ s'.b = s.b
  | [], _, _, s, s', r, _, _, _, _, _, _, _, _, h, _ => by simp [kidsF] at h; exact ⟨h.1, by rw [← h.2]⟩
  | _ :: _, [], _, s, s', r, _, _, _, _, h1, h2, _, _, h, _ => by cases h2; cases h1
  | x :: l, y :: m, _, s, s', r, hl, hm, hi, hp, .cons a1 k1, .cons a2 k2, hs, hf, h, hx => by
    obtain ⟨fx, px⟩ := hl x List.mem_cons_self
    obtain ⟨fy, py⟩ := hm y List.mem_cons_self
    obtain ⟨r0, s0, e, c1, c2, c3, c4⟩ := hg x y s fx fy hi hs hf
    rw [kidsF, e] at h
    have hmS : maxS = 1048576 := rfl
    cases r0 with
    | false =>
      cases h
      have := (hh x y _ s s' false fx fy px py hi hp a1 a2 hs hf e hx).1
      cases this
    | true =>
      simp only at h
      obtain ⟨r2, s2, e2, d1, d2, d3, d4⟩ := kids_some hg l m s0 (fun t ht => (hl t (List.mem_cons_of_mem _ ht)).1) (fun t ht => (hm t (List.mem_cons_of_mem _ ht)).1) c1 (c4 rfl) (by omega)
      have h' := h
      rw [e2] at h'
      cases h'
      obtain ⟨_, hb⟩ := hh x y _ s s0 true fx fy px py hi hp a1 a2 hs hf e (by omega)
      have ih := kids_eq hg hh l m _ s0 s' r (fun t ht => hl t (List.mem_cons_of_mem _ ht)) (fun t ht => hm t (List.mem_cons_of_mem _ ht)) c1 (by rw [hb]; exact hp) (by rw [hb]; exact k1) (by rw [hb]; exact k2) (c4 rfl) (by omega) h hx
      exact ⟨ih.1, ih.2.trans hb⟩
theorem unif_eq : ∀ (f : Nat), EqS f (unifF f)
  | 0 => fun x y w s s' r _ _ _ _ _ _ _ _ _ h => by omega
  | f + 1 => fun x y w s s' r fx fy px py hi hp ax ay hs hf h hx => by
    have hle := hi.le
    have h0 : 0 ≤ s.st := by omega
    have hst := step_n h0 (by omega)
    have hmS : maxS = 1048576 := rfl
    have hi' : InvS s.step := ⟨hi.b, hi.same, by show (s.b.length : Int) ≤ stepI s.st; omega, hi.cap⟩
    have hst' : s.step.st = s.st + 1 := hst
    rw [unifF] at h
    cases ha : headF f s.b x with
    | none => rw [ha] at h; cases h
    | some a =>
    cases hb : headF f s.b y with
    | none => rw [ha, hb] at h; cases h
    | some b =>
    rw [ha, hb] at h
    simp only at h
    obtain ⟨_, a1, a2, a3, a4⟩ := ax.head ha
    obtain ⟨_, b1, b2, b3, b4⟩ := ay.head hb
    have fa := few_head hi.b fx ha
    have fb := few_head hi.b fy hb
    have pa := plain_head hp px ha
    have pb := plain_head hp py hb
    rw [hst] at h
    by_cases hm : s.st + 1 ≤ maxS
    · rw [if_pos hm] at h
      by_cases h2 : a.kind = 2
      · have hb2 : b.kind = 2 := by rw [← b1, a1]; exact h2
        have hbn : b.n = a.n := by rw [← b3, a3]
        rw [if_pos ⟨h2, fun e => by omega⟩] at h
        unfold metaF at h
        rw [if_pos ⟨hb2, hbn⟩] at h
        cases h
        exact ⟨rfl, rfl⟩
      · have hb2 : ¬ b.kind = 2 := by rw [← b1, a1]; exact h2
        rw [if_neg (fun e => h2 e.1), if_neg hb2, if_pos ⟨by rw [← b1, a1], by rw [← b2, a2], by rw [← b3, a3]⟩, if_pos (by rw [b4.len, a4.len]), if_pos fb.len] at h
        exact kids_eq (unif_some f) (unif_eq f) b.kids a.kids w.kids s.step s' r (fun t ht => ⟨fb.kid t ht, plain_kids pb t ht⟩) (fun t ht => ⟨fa.kid t ht, plain_kids pa t ht⟩) hi' hp b4 a4 (by omega) (by omega) h hx
    · rw [if_neg hm] at h
      cases h
      omega
end Go.Proofs.Ytnepapfndihalaa
