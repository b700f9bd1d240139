/- Joined texts. -/
import Derived.Test.YtkfdklocgpgbfaaBf
set_option linter.unusedVariables false
set_option linter.unusedSimpArgs false
set_option linter.unusedSectionVars false
namespace Go.Proofs.Ytkfdklocgpgbfaa
open Go.RowKit

/-- A row of things of one cell. -/
def r1 {α : Type} (e : α → PV) (l : List α) : PV := .rows (l.map fun x => [e x])
theorem r1_ns {α : Type} {e : α → PV} (he : ∀ x, NS (e x)) (l : List α) : NS (r1 e l) := .rows _ fun c hc p hp => by
  obtain ⟨x, hx, rfl⟩ := List.mem_map.1 hc
  rw [List.mem_singleton.1 hp]; exact he x
section
variable {β : Type} {d : β} {α : Type} {e : α → PV} {t : TypeId} {b : Nat}
theorem lenK_r1 {k : AV → β} (ht : SlT PG t 1 b) (l : List α) : lenK PG d t (.pv (r1 e l)) k = k (.pv (iv l.length)) := by
  rw [r1, lenK_of (fun _ => len_ok ht _) (nsa_lit _), List.length_map]
theorem idxK_r1 {k : AV → β} (ht : SlT PG t 1 b) (he : ∀ x, NS (e x)) {l : List α} {i : Nat} {x : α} (h : l[i]? = some x) : idxK PG d t (.pv (r1 e l)) (.pv (.lit (.int .i64 (i : Int)))) k = k (.cptr [e x]) :=
  idxK_of (fun _ => idx_ok ht (by rw [List.getElem?_map, h]; rfl) rfl) (.cptr _ fun p hp => by rw [List.mem_singleton.1 hp]; exact he x)
theorem appK_r1 {k : PV → β} (ht : SlT PG t 1 b) (he : ∀ x, NS (e x)) (hb : b ≤ 100) {l : List α} {x : α} (h : l.length ≤ 1000000000) : appK PG d t (.pv (r1 e l)) (.pv (.rows [[e x]])) k = k (r1 e (l ++ [x])) := by
  refine appK_of (fun w => ?_) (r1_ns he _)
  have hbb : (l.length + 1) * b ≤ 140737488355328 := Nat.le_trans (Nat.mul_le_mul (show l.length + 1 ≤ 1000000001 by omega) hb) (by decide)
  rw [r1, app_ok ht (es := l.map fun x => [e x]) (es' := [[e x]]) rfl rfl (by simp) (by simp) (by simp; omega) (by simpa using hbb)]
  rw [r1, List.map_append]; exact Iff.rfl
theorem appN_r1 {k : PV → β} (ht : SlT PG t 1 b) (he : ∀ x, NS (e x)) (hb : b ≤ 100) {x : α} : appK PG d t (.pv (.lit (.slice none 0 0))) (.pv (.rows [[e x]])) k = k (r1 e [x]) := by
  refine appK_of (fun w => ?_) (r1_ns he _)
  rw [app_ok ht (es := []) (es' := [[e x]]) rfl rfl (by simp) (by simp) (by simp) (by simp; omega)]
  exact Iff.rfl
theorem setK_r1 {k : PV → β} (he : ∀ x, NS (e x)) {l : List α} {i : Nat} {x : α} (h : i < l.length) : setK d (r1 e l) (.lit (.int .i64 (i : Int))) 0 [e x] k = k (r1 e (l.set i x)) := by
  have hg : (l.map fun x => [e x]).getD i [] = [e l[i]] := by
    rw [List.getD_eq_getElem?_getD, List.getElem?_map, List.getElem?_eq_getElem h]; rfl
  have hs : setAt [e l[i]] 0 [e x] = [e x] := rfl
  have hset : (l.map fun x => [e x]).set i [e x] = (l.set i x).map fun x => [e x] := by rw [List.map_set]
  refine theK_of (and_iff (fun w => ?_) (r1_ns he _))
  constructor
  · rintro ⟨es, n, kd, g1, g2, g3, g4, g5, rfl, _⟩
    cases g1
    cases g2
    rw [Int.toNat_natCast, hg, hs, hset]; rfl
  · rintro rfl
    refine ⟨_, _, _, rfl, rfl, by omega, by rw [Int.toNat_natCast, List.length_map]; exact h, ?_, ?_, nsP_of (r1_ns he _)⟩
    · rw [Int.toNat_natCast, hg]; exact Nat.le_refl 1
    · rw [Int.toNat_natCast, hg, hs, hset]; rfl
theorem slcT_r1 {k : AV → β} (ht : SlT PG t 1 b) (he : ∀ x, NS (e x)) {l : List α} {i : Nat} (h : i ≤ l.length) : slcK PG d t (.pv (r1 e l)) none (some (.pv (.lit (.int .i64 (i : Int))))) k = k (.pv (r1 e (l.take i))) :=
  slcK_of (slc_one (by have := slc_to ht (es := l.map fun x => [e x]) (m := i) (by simpa using h); rwa [← List.map_take] at this)) (.pv _ (r1_ns he _))
theorem slcF_r1 {k : AV → β} (ht : SlT PG t 1 b) (he : ∀ x, NS (e x)) {l : List α} {i : Nat} (h : i ≤ l.length) : slcK PG d t (.pv (r1 e l)) (some (.pv (.lit (.int .i64 (i : Int))))) none k = k (.pv (r1 e (l.drop i))) :=
  slcK_of (slc_one (by have := slc_from ht (es := l.map fun x => [e x]) (l := i) (by simpa using h) (by simp); rwa [← List.map_drop] at this)) (.pv _ (r1_ns he _))
theorem mkK_r1 {k : PV → β} (ht : SlT PG t 1 b) (he : ∀ x, NS (e x)) (hb : b ≤ 100) {z : α} {el : TypeId} (h1 : PG.underlying t = some (.slice el)) (h2 : szA PG el = some 1) (hby : bytesA PG el = some b) (h3 : zeroA PG el = some [.pv (e z)]) {n : Nat} (h : n ≤ 1000000) : mkK PG d t (.pv (iv n)) k = k (r1 e (List.replicate n z)) := by
  have hr : (List.replicate n z).map (fun x => [e x]) = List.replicate n [e z] := List.map_replicate
  refine theK_of (and_iff (fun w => ?_) (r1_ns he _))
  constructor
  · rintro ⟨e', sz, by_, zc, z', m, g1, g2, g3, g4, g5, g6, g7, g8, g9, g10, rfl, _⟩
    rw [h1] at g1
    cases g1
    rw [h3] at g4
    cases g4
    have hz : z' = [e z] := by
      have : toPVs [AV.pv (e z)] = some [e z] := rfl
      rw [this] at g5; exact (Option.some.inj g5).symm
    have hm : m = n := by
      have : intV (.pv (iv n)) = some (n : Int) := rfl
      rw [this] at g8
      have := Option.some.inj g8
      omega
    rw [hz, hm, r1, hr]
  · rintro rfl
    refine ⟨el, 1, b, [.pv (e z)], [e z], n, h1, h2, hby, h3, rfl, Nat.one_pos, rfl, rfl, ?_, ?_, by rw [r1, hr], nsP_of (r1_ns he _)⟩
    · exact Nat.le_trans h (by decide)
    · exact Nat.le_trans (Nat.mul_le_mul h hb) (by decide)
end
def eN (n : Nat) : PV := iv n
def eO : Option Nat → PV
  | none => iv (-1)
  | some j => iv j
def eB (b : Bool) : PV := bv b
theorem eN_ns (x : Nat) : NS (eN x) := .lit _
theorem eO_ns (x : Option Nat) : NS (eO x) := by cases x <;> exact .lit _
theorem eB_ns (x : Bool) : NS (eB x) := .lit _
def nvs (l : List Nat) : PV := r1 eN l
def ovs (l : List (Option Nat)) : PV := r1 eO l
def bvr (l : List Bool) : PV := r1 eB l
@[simp] theorem ns_nvs (l : List Nat) : NS (nvs l) := r1_ns eN_ns l
@[simp] theorem ns_ovs (l : List (Option Nat)) : NS (ovs l) := r1_ns eO_ns l
@[simp] theorem ns_bvr (l : List Bool) : NS (bvr l) := r1_ns eB_ns l
def nss (l : List (List Nat)) : PV := r1 nvs l
def bsr (l : List (List Bool)) : PV := r1 bvr l
@[simp] theorem ns_nss (l : List (List Nat)) : NS (nss l) := r1_ns ns_nvs l
@[simp] theorem ns_bsr (l : List (List Bool)) : NS (bsr l) := r1_ns ns_bvr l
/-- Rows of numbers of any sign. -/
def zvs (l : List Int) : PV := .rows (ivs l)
def zss (l : List (List Int)) : PV := .rows (iss l)
theorem zvs_eq (l : List Int) : zvs l = r1 iv l := rfl
theorem zss_eq (l : List (List Int)) : zss l = r1 zvs l := rfl
theorem iv_ns (x : Int) : NS (iv x) := .lit _
@[simp] theorem ns_zvs (l : List Int) : NS (zvs l) := r1_ns iv_ns l
@[simp] theorem ns_zss (l : List (List Int)) : NS (zss l) := r1_ns ns_zvs l
theorem sl_i : SlT PG 31 1 8 := SlT.of (by kernel_rfl)
theorem sl_ii : SlT PG 22 1 24 := SlT.of (by kernel_rfl)
theorem sl_b : SlT PG 34 1 1 := SlT.of (by kernel_rfl)
theorem sl_bb : SlT PG 32 1 24 := SlT.of (by kernel_rfl)
section
variable {β : Type} {d : β} {k : AV → β} {kp : PV → β}
@[simp] theorem len_nvs (l : List Nat) : lenK PG d 31 (.pv (nvs l)) k = k (.pv (iv l.length)) := lenK_r1 sl_i l
@[simp] theorem len_ovs (l : List (Option Nat)) : lenK PG d 31 (.pv (ovs l)) k = k (.pv (iv l.length)) := lenK_r1 sl_i l
@[simp] theorem len_zvs (l : List Int) : lenK PG d 31 (.pv (zvs l)) k = k (.pv (iv l.length)) := lenK_r1 sl_i l
@[simp] theorem len_nss (l : List (List Nat)) : lenK PG d 22 (.pv (nss l)) k = k (.pv (iv l.length)) := lenK_r1 sl_ii l
@[simp] theorem len_zss (l : List (List Int)) : lenK PG d 22 (.pv (zss l)) k = k (.pv (iv l.length)) := lenK_r1 sl_ii l
@[simp] theorem len_bvr (l : List Bool) : lenK PG d 34 (.pv (bvr l)) k = k (.pv (iv l.length)) := lenK_r1 sl_b l
@[simp] theorem len_bsr (l : List (List Bool)) : lenK PG d 32 (.pv (bsr l)) k = k (.pv (iv l.length)) := lenK_r1 sl_bb l
theorem idx_nvs {l : List Nat} {i x : Nat} (h : l[i]? = some x) : idxK PG d 31 (.pv (nvs l)) (.pv (.lit (.int .i64 (i : Int)))) k = k (.cptr [iv x]) := idxK_r1 sl_i eN_ns h
theorem idx_ovs {l : List (Option Nat)} {i : Nat} {x : Option Nat} (h : l[i]? = some x) : idxK PG d 31 (.pv (ovs l)) (.pv (.lit (.int .i64 (i : Int)))) k = k (.cptr [eO x]) := idxK_r1 sl_i eO_ns h
theorem idx_zvs {l : List Int} {i : Nat} {x : Int} (h : l[i]? = some x) : idxK PG d 31 (.pv (zvs l)) (.pv (.lit (.int .i64 (i : Int)))) k = k (.cptr [iv x]) := idxK_r1 sl_i iv_ns h
theorem idx_nss {l : List (List Nat)} {i : Nat} {x : List Nat} (h : l[i]? = some x) : idxK PG d 22 (.pv (nss l)) (.pv (.lit (.int .i64 (i : Int)))) k = k (.cptr [nvs x]) := idxK_r1 sl_ii ns_nvs h
theorem idx_zss {l : List (List Int)} {i : Nat} {x : List Int} (h : l[i]? = some x) : idxK PG d 22 (.pv (zss l)) (.pv (.lit (.int .i64 (i : Int)))) k = k (.cptr [zvs x]) := idxK_r1 sl_ii ns_zvs h
theorem idx_bvr {l : List Bool} {i : Nat} {x : Bool} (h : l[i]? = some x) : idxK PG d 34 (.pv (bvr l)) (.pv (.lit (.int .i64 (i : Int)))) k = k (.cptr [bv x]) := idxK_r1 sl_b eB_ns h
theorem idx_bsr {l : List (List Bool)} {i : Nat} {x : List Bool} (h : l[i]? = some x) : idxK PG d 32 (.pv (bsr l)) (.pv (.lit (.int .i64 (i : Int)))) k = k (.cptr [bvr x]) := idxK_r1 sl_bb ns_bvr h
theorem set_nvs {l : List Nat} {i x : Nat} (h : i < l.length) : setK d (nvs l) (.lit (.int .i64 (i : Int))) 0 [.lit (.int .i64 (x : Int))] kp = kp (nvs (l.set i x)) := setK_r1 eN_ns h
theorem set_ovs {l : List (Option Nat)} {i x : Nat} (h : i < l.length) : setK d (ovs l) (.lit (.int .i64 (i : Int))) 0 [.lit (.int .i64 (x : Int))] kp = kp (ovs (l.set i (some x))) := setK_r1 (x := some x) eO_ns h
theorem set_bvr {l : List Bool} {i : Nat} {x : Bool} (h : i < l.length) : setK d (bvr l) (.lit (.int .i64 (i : Int))) 0 [.lit (.bool x)] kp = kp (bvr (l.set i x)) := setK_r1 eB_ns h
theorem app_nvs {l : List Nat} {x : Nat} (h : l.length ≤ 1000000000) : appK PG d 31 (.pv (nvs l)) (.pv (.rows [[.lit (.int .i64 (x : Int))]])) kp = kp (nvs (l ++ [x])) := appK_r1 sl_i eN_ns (by decide) h
theorem apn_nvs {x : Nat} : appK PG d 31 (.pv (.lit (.slice none 0 0))) (.pv (.rows [[.lit (.int .i64 (x : Int))]])) kp = kp (nvs [x]) := appN_r1 sl_i eN_ns (by decide)
theorem app_nss {l : List (List Nat)} {x : List Nat} (h : l.length ≤ 1000000000) : appK PG d 22 (.pv (nss l)) (.pv (.rows [[nvs x]])) kp = kp (nss (l ++ [x])) := appK_r1 sl_ii ns_nvs (by decide) h
theorem apn_nss {x : List Nat} : appK PG d 22 (.pv (.lit (.slice none 0 0))) (.pv (.rows [[nvs x]])) kp = kp (nss [x]) := appN_r1 sl_ii ns_nvs (by decide)
theorem take_nvs {l : List Nat} {i : Nat} (h : i ≤ l.length) : slcK PG d 31 (.pv (nvs l)) none (some (.pv (.lit (.int .i64 (i : Int))))) k = k (.pv (nvs (l.take i))) := slcT_r1 sl_i eN_ns h
theorem drop_nvs {l : List Nat} {i : Nat} (h : i ≤ l.length) : slcK PG d 31 (.pv (nvs l)) (some (.pv (.lit (.int .i64 (i : Int))))) none k = k (.pv (nvs (l.drop i))) := slcF_r1 sl_i eN_ns h
theorem take_nss {l : List (List Nat)} {i : Nat} (h : i ≤ l.length) : slcK PG d 22 (.pv (nss l)) none (some (.pv (.lit (.int .i64 (i : Int))))) k = k (.pv (nss (l.take i))) := slcT_r1 sl_ii ns_nvs h
theorem mk_nvs {n : Nat} (h : n ≤ 1000000) : mkK PG d 31 (.pv (iv n)) kp = kp (nvs (List.replicate n 0)) := mkK_r1 (z := 0) sl_i eN_ns (by decide) (el := 3) (by kernel_rfl) (by kernel_rfl) (by kernel_rfl) (by kernel_rfl) h
theorem mk_bvr {n : Nat} (h : n ≤ 1000000) : mkK PG d 34 (.pv (iv n)) kp = kp (bvr (List.replicate n false)) := mkK_r1 (z := false) sl_b eB_ns (by decide) (el := 4) (by kernel_rfl) (by kernel_rfl) (by kernel_rfl) (by kernel_rfl) h
end
/-- Numbers that are not below 0, as numbers of any sign. -/
def zof (l : List Nat) : List Int := l.map fun (n : Nat) => (n : Int)
theorem zvs_zof (l : List Nat) : zvs (zof l) = nvs l := by
  unfold zvs ivs zof nvs r1
  rw [List.map_map]; rfl
theorem zss_zof (l : List (List Nat)) : zss (l.map zof) = nss l := by
  unfold zss iss nss r1
  rw [List.map_map]
  congr 1
  apply List.map_congr_left
  intro r _
  show [PV.rows (ivs (zof r))] = _
  rw [show PV.rows (ivs (zof r)) = nvs r from zvs_zof r]

theorem wr {n : Nat} (h : n < 9000000000000000000) : IntKind.i64.wrap ((n : Int) + 1) = ((n + 1 : Nat) : Int) := by rw [IntKind.wrap_i64]; omega
theorem c1 (n : Nat) : ((n + 1 : Nat) : Int) = (n : Int) + 1 := by omega
/-! The place of a thing in a row. -/
theorem index_l (l : List Nat) (i : Nat) (hb : l.length ≤ 1000000000) : ∀ (m : List Nat) (j : Nat), l.drop j = m → i ∈ m →
    ev (q26ab0a (iv (j : Int)) (iv l.length) (iv i) (nvs l)) = some (0, [nvs l, iv ((j + m.idxOf i : Nat) : Int)])
  | [], j, hd, h => by cases h
  | x :: m, j, hd, h => by
    have hx : l[j]? = some x := by have := congrArg List.head? hd; rwa [List.head?_drop] at this
    have hi : (j : Int) < l.length := by have := (List.getElem?_eq_some_iff.1 hx).1; omega
    have hd' : l.drop (j + 1) = m := by rw [← List.drop_drop, hd]; rfl
    refine Evl.of ?_
    rw [h26ab0a, g26ab0a]
    by_cases hxi : i = x
    · subst hxi
      simp [hi, idx_nvs hx]
    · have hne : ¬ (i : Int) = x := by omega
      have hm : i ∈ m := (List.mem_cons.1 h).resolve_left hxi
      have ih := index_l l i hb m (j + 1) hd' hm
      have e0 := wr (n := j) (by omega)
      have e2 : (x :: m).idxOf i = m.idxOf i + 1 := by
        have h3 : (x == i) = false := by simpa using fun e => hxi e.symm
        simp [List.idxOf_cons, h3]
      rw [c1] at ih
      rw [show j + 1 + m.idxOf i = j + (x :: m).idxOf i by omega] at ih
      simp only [m_L3, m_X, m_E3, m_A3, m_Y, m_w1, m_O0, m_O, idx_nvs hx, xV, bV, bA, bI, cptrK_c, cC_cons, cN_nil, binK_lss, binK_eql, binK_add, pvK_pv, hi, hne, e0, c1, ih, decide_true, decide_false, isK_t, isK_f, bK_true, bK_false, alt_fail, alt_fail', alt_passK, passK_some]
theorem index_ev {l : List Nat} {i : Nat} (hb : l.length ≤ 1000000000) (h : i ∈ l) : ev (q26a (iv i) (nvs l)) = some (0, [nvs l, iv (l.idxOf i : Nat)]) := Evl.of (by
  have h1 := index_l l i hb l 0 rfl h
  rw [Nat.zero_add] at h1
  rw [h26a, g26a]
  simp at h1
  simp [h1])
theorem values_ev (lo q p : PV) : ev (q28a lo q p) = some (0, [p, lo, q]) := Evl.of (by
  rw [h28a, g28a]; simp)
theorem sortZ_zof (l : List Nat) : sortZ (zof l) = zof (sortN l) := by
  unfold sortZ zof sortN
  rw [List.map_mergeSort (f := fun (n : Nat) => (n : Int))]
  intro a _ b _
  simp
theorem sorted_ev {l : List Nat} {a : Nat} (h : l.length ≤ 1000000) (ha : a ≤ l.length) : ev (q27 (iv a) (nvs (l.drop a)) (nvs l)) = some (0, [iv a, nvs (l.drop a), nvs l, nvs (sortN (l.drop a))]) := Evl.of (by
  rw [h27]
  have h1 : srtV [iv a, nvs (l.drop a), nvs l] = some (0, [iv a, nvs (l.drop a), nvs l, nvs (sortN (l.drop a))]) := by
    have e1 : nvs l = .rows (ivs (zof l)) := (zvs_zof l).symm
    have e2 : nvs (sortN (l.drop a)) = .rows (ivs (sortZ (zof (l.drop a)))) := by rw [sortZ_zof]; exact (zvs_zof _).symm
    have e3 : nvs (l.drop a) = .rows ((l.drop a).map fun x => [eN x]) := rfl
    have e4 : ((zof l).drop ((a : Int).toNat)).take ((l.drop a).map fun x => [eN x]).length = zof (l.drop a) := by
      rw [Int.toNat_natCast, List.length_map]
      unfold zof
      rw [← List.map_drop, List.take_of_length_le (by simp)]
    rw [e2, e1, e3, srtV, intsOf_ivs]
    simp only
    rw [e4, if_pos ⟨by omega, by simpa [zof] using h, by simp [zof]; omega⟩]
  rw [h1]; rfl)
/-! A group is marked. -/
theorem mark_a (N : List (List Nat)) (g : List Nat) (hb : g.length ≤ 1000000000) (met low : PV) (stk : PV) (nn : Nat) : ∀ (m : List Nat) (j : Nat) (o : List (Option Nat)), o.length = nn → (∀ k ∈ m, k < nn) → g.drop j = m →
    ev (q25ab3a (iv (j : Int)) (iv g.length) (nvs g) (nvs g) (nss N) met low (ovs o) stk) = some (0, [nss N, nS, met, low, ovs (setAll m 0 o), stk, nvs g])
  | [], j, o, ho, hm, hd => by
    have hi : ¬ (j : Int) < g.length := by have := congrArg List.length hd; simp at this; omega
    refine Evl.of ?_
    rw [h25ab3a, g25ab3a]
    simp [hi, setAll]
  | k :: m, j, o, ho, hm, hd => by
    have hx : g[j]? = some k := by have := congrArg List.head? hd; rwa [List.head?_drop] at this
    have hi : (j : Int) < g.length := by have := (List.getElem?_eq_some_iff.1 hx).1; omega
    have hd' : g.drop (j + 1) = m := by rw [← List.drop_drop, hd]; rfl
    have hk : k < o.length := by rw [ho]; exact hm k (List.mem_cons_self ..)
    have ih := mark_a N g hb met low stk nn m (j + 1) (o.set k (some 0)) (by simp [ho]) (fun k h => hm k (List.mem_cons_of_mem _ h)) hd'
    have e0 := wr (n := j) (by omega)
    have hs := fun kp => set_ovs (d := Res.fail) (x := 0) (kp := kp) hk
    have ho2 : ∃ y, o[k]? = some y := ⟨_, List.getElem?_eq_getElem hk⟩
    obtain ⟨y, hy⟩ := ho2
    simp only [Int.natCast_zero, Int.ofNat_zero] at hs
    rw [c1] at ih e0
    refine Evl.of ?_
    rw [h25ab3a, g25ab3a]
    simp [hi, idx_nvs hx, idx_ovs hy, hs, e0, ih, setAll]
theorem mark_b (N : List (List Nat)) (g : List Nat) (hb : g.length ≤ 1000000000) (met low : PV) (stk : PV) (grp : List (List Nat)) (nn : Nat) : ∀ (m : List Nat) (j : Nat) (o : List (Option Nat)), o.length = nn → (∀ k ∈ m, k < nn) → g.drop j = m →
    ev (q25ab3b (iv (j : Int)) (iv g.length) (nvs g) (nvs g) (nss N) met low (ovs o) stk (nss grp)) = some (0, [nss N, met, low, ovs (setAll m grp.length o), stk, nss grp, nvs g])
  | [], j, o, ho, hm, hd => by
    have hi : ¬ (j : Int) < g.length := by have := congrArg List.length hd; simp at this; omega
    refine Evl.of ?_
    rw [h25ab3b, g25ab3b]
    simp [hi, setAll]
  | k :: m, j, o, ho, hm, hd => by
    have hx : g[j]? = some k := by have := congrArg List.head? hd; rwa [List.head?_drop] at this
    have hi : (j : Int) < g.length := by have := (List.getElem?_eq_some_iff.1 hx).1; omega
    have hd' : g.drop (j + 1) = m := by rw [← List.drop_drop, hd]; rfl
    have hk : k < o.length := by rw [ho]; exact hm k (List.mem_cons_self ..)
    have ih := mark_b N g hb met low stk grp nn m (j + 1) (o.set k (some grp.length)) (by simp [ho]) (fun k h => hm k (List.mem_cons_of_mem _ h)) hd'
    have e0 := wr (n := j) (by omega)
    have hs := fun kp => set_ovs (d := Res.fail) (x := grp.length) (kp := kp) hk
    have ho2 : ∃ y, o[k]? = some y := ⟨_, List.getElem?_eq_getElem hk⟩
    obtain ⟨y, hy⟩ := ho2
    rw [c1] at ih e0
    refine Evl.of ?_
    rw [h25ab3b, g25ab3b]
    simp [hi, idx_nvs hx, idx_ovs hy, hs, e0, ih, setAll]

def ansC (N : List (List Nat)) (s' : St) : Rs := if s'.grp = [] then (0, [iv s'.n, nss N, nS, nvs s'.met, nvs s'.low, ovs s'.of, nvs s'.stk]) else (1, [iv s'.n, nss N, nvs s'.met, nvs s'.low, ovs s'.of, nvs s'.stk, nss s'.grp])
def ansD (N : List (List Nat)) (s s' : St) : Rs := if s'.grp = s.grp then (0, [iv s'.n, nss N, nvs s'.met, nvs s'.low, ovs s'.of, nss s'.grp, nvs s'.stk]) else (1, [iv s'.n, nss N, nvs s'.met, nvs s'.low, ovs s'.of, nvs s'.stk, nss s'.grp])
structure VisOk (N : List (List Nat)) (vis : Nat → St → Option St) : Prop where
  keep : ∀ k s s', k < N.length → WF N s → mt s k = 0 → vis k s = some s' → WF N s' ∧ Keep s s' ∧ s.n < s'.n
  c : ∀ k s s', k < N.length → WF N s → mt s k = 0 → vis k s = some s' → s.grp = [] → ev (q25c (iv k) (iv s.n) (nss N) (nvs s.met) (nvs s.low) (ovs s.of) (nvs s.stk)) = some (ansC N s')
  d : ∀ k s s', k < N.length → WF N s → mt s k = 0 → vis k s = some s' → s.grp ≠ [] → ev (q25d (iv k) (iv s.n) (nss N) (nvs s.met) (nvs s.low) (ovs s.of) (nvs s.stk) (nss s.grp)) = some (ansD N s s')
/-- What a row holds at a place. -/
theorem at_of {l : List Nat} {x m : Nat} (h : l.getD x 0 = m) (hx : x < l.length) : l[x]? = some m := by
  rw [List.getElem?_eq_getElem hx, ← h, List.getD_eq_getElem?_getD, List.getElem?_eq_getElem hx]; rfl
theorem at_ofO {l : List (Option Nat)} {x : Nat} {m : Option Nat} (h : l.getD x none = m) (hx : x < l.length) : l[x]? = some m := by
  rw [List.getElem?_eq_getElem hx, ← h, List.getD_eq_getElem?_getD, List.getElem?_eq_getElem hx]; rfl
theorem mn (a b : Nat) : min (a : Int) (b : Int) = ((min a b : Nat) : Int) := by omega
theorem mx_n {k : AV → Res} (a b : Nat) : mxK PG .fail true (.pv (.lit (.int .i64 (a : Int)))) (.pv (.lit (.int .i64 (b : Int)))) k = k (.pv (.lit (.int .i64 ((min a b : Nat) : Int)))) := by rw [mxK_min, mn]
theorem grp_ne {s s' : St} (h : Keep s s') (hg : s.grp ≠ []) : s'.grp ≠ [] := fun e => hg (by obtain ⟨r, hr⟩ := h.kg; rw [e] at hr; exact (List.append_eq_nil_iff.1 hr).1)
theorem grp_ne2 {s s1 s' : St} (h : Keep s s1) (k : Keep s1 s') (hg : s1.grp ≠ s.grp) : s'.grp ≠ s.grp := fun e => hg (by
  obtain ⟨r, hr⟩ := h.kg
  obtain ⟨t, ht⟩ := k.kg
  rw [e, ← hr, List.append_assoc] at ht
  have h1 := congrArg List.length ht
  simp only [List.length_append] at h1
  have : r = [] := List.eq_nil_of_length_eq_zero (by omega)
  rw [← hr, this, List.append_nil])
section
variable {N : List (List Nat)} {vis : Nat → St → Option St} {row : List Nat}

def ans27 (N : List (List Nat)) (i : Nat) (s s' : St) : Rs := (3, [nss N, nvs s'.met, nvs s'.low, ovs s'.of, iv s'.n, nvs s'.stk, nss s'.grp, iv i])
theorem L27 (V : VisOk N vis) (hr : row.length ≤ 1000000000) {i : Nat} (hi : i < N.length) : ∀ (ks : List Nat) (j : Nat) (s s' : St), row.drop j = ks → (∀ k ∈ ks, k < N.length) → WF N s → s.grp ≠ [] → edges vis i ks s = some s' →
    ev (q25ab0d (iv (j : Int)) (iv row.length) (nvs row) (iv i) (nss N) (nvs s.met) (nvs s.low) (ovs s.of) (iv s.n) (nvs s.stk) (nss s.grp)) = some (ans27 N i s s')
  | [], j, s, s', hd, hks, hw, hg, h => by
    have hj : ¬ (j : Int) < row.length := by have := congrArg List.length hd; simp at this; omega
    cases h
    refine Evl.of ?_
    rw [h25ab0d, g25ab0d]
    simp [hj, ans27, hg]
  | k :: ks, j, s, s', hd, hks, hw, hg, h => by
    have hx : row[j]? = some k := by have := congrArg List.head? hd; rwa [List.head?_drop] at this
    have hj : (j : Int) < row.length := by have := (List.getElem?_eq_some_iff.1 hx).1; omega
    have hd' : row.drop (j + 1) = ks := by rw [← List.drop_drop, hd]; rfl
    have hk := hks k (List.mem_cons_self ..)
    have hks' : ∀ k ∈ ks, k < N.length := fun k h => hks k (List.mem_cons_of_mem _ h)
    have e0 := wr (n := j) (by omega)
    rw [edges] at h
    refine Evl.of ?_
    rw [h25ab0d, g25ab0d]
    by_cases h0 : mt s k = 0
    · rw [if_pos h0] at h
      have hm : s.met[k]? = some 0 := at_of h0 (by rw [hw.m]; exact hk)
      split at h
      · cases h
      · rename_i s1 h1
        obtain ⟨hw1, hk1, hn1⟩ := V.keep k s s1 hk hw h0 h1
        have hc := V.d k s s1 hk hw h0 h1 hg
        obtain ⟨hw2, hk2⟩ := edges_keep V.keep ks _ s' hks' (hw1.low i _) h
        have hk2' : Keep s1 s' := (Keep.low i _ s1).trans hk2
        have hli : s1.low[i]? = some (lw s1 i) := at_of rfl (by rw [hw1.l]; exact hi)
        have hlk : s1.low[k]? = some (lw s1 k) := at_of rfl (by rw [hw1.l]; exact hk)
        have hset := fun kp => set_nvs (d := Res.fail) (kp := kp) (l := s1.low) (x := min (lw s1 i) (lw s1 k)) (i := i) (by rw [hw1.l]; exact hi)
        have hn' : ¬ s'.n = s.n := by have := hk2'.kn; omega
        by_cases hf : s1.grp = s.grp
        · have ih := L27 V hr hi ks (j + 1) (setLow i (min (lw s1 i) (lw s1 k)) s1) s' hd' hks' (hw1.low i _) (grp_ne hk1 hg : _) h
          simp only [setLow, c1] at ih
          rw [ansD, if_pos hf] at hc
          have hgn : True := trivial
          have ea : ans27 N i { s1 with low := s1.low.set i (min (lw s1 i) (lw s1 k)) } s' = ans27 N i s s' := by
            simp [ans27, ans27, hn', hgn, hf]
          rw [ea] at ih
          rw [hf] at hc ih
          simp [-mxK_min, hj, idx_nvs hx, idx_nvs hm, hc, idx_nvs hli, idx_nvs hlk, mx_n, hset, e0, c1, ih]
        · have ih := L27 V hr hi ks (j + 1) (setLow i (min (lw s1 i) (lw s1 k)) s1) s' hd' hks' (hw1.low i _) (grp_ne hk1 hg : _) h
          simp only [setLow, c1] at ih
          rw [ansD, if_neg hf] at hc
          have hgn : s'.grp ≠ s.grp := grp_ne2 hk1 hk2' hf
          have ea : ans27 N i { s1 with low := s1.low.set i (min (lw s1 i) (lw s1 k)) } s' = ans27 N i s s' := by
            simp [ans27, ans27, hn', hgn]
          rw [ea] at ih
          simp [-mxK_min, hj, idx_nvs hx, idx_nvs hm, hc, idx_nvs hli, idx_nvs hlk, mx_n, hset, e0, c1, ih]
    · rw [if_neg h0] at h
      have hm : s.met[k]? = some (mt s k) := at_of rfl (by rw [hw.m]; exact hk)
      have hli : s.low[i]? = some (lw s i) := at_of rfl (by rw [hw.l]; exact hi)
      have ho : s.of[k]? = some (gof s k) := at_ofO rfl (by rw [hw.o]; exact hk)
      have hset := fun kp => set_nvs (d := Res.fail) (kp := kp) (l := s.low) (x := min (lw s i) (mt s k)) (i := i) (by rw [hw.l]; exact hi)
      by_cases ho0 : gof s k = none
      · rw [if_pos ho0] at h
        rw [ho0] at ho
        have ih := L27 V hr hi ks (j + 1) (setLow i (min (lw s i) (mt s k)) s) s' hd' hks' (hw.low i _) hg h
        simp only [setLow, c1] at ih
        have ea : ans27 N i { s with low := s.low.set i (min (lw s i) (mt s k)) } s' = ans27 N i s s' := rfl
        rw [ea] at ih
        simp [-mxK_min, hj, idx_nvs hx, idx_nvs hm, h0, idx_ovs ho, eO, idx_nvs hli, mx_n, hset, e0, c1, ih]
      · rw [if_neg ho0] at h
        obtain ⟨g, hgo⟩ := Option.ne_none_iff_exists'.1 ho0
        rw [hgo] at ho
        have hneg : ¬ (g : Int) < 0 := by omega
        have ih := L27 V hr hi ks (j + 1) s s' hd' hks' hw hg h
        simp only [c1] at ih
        simp [-mxK_min, hj, idx_nvs hx, idx_nvs hm, h0, idx_ovs ho, eO, hneg, e0, c1, ih]
def ans26 (N : List (List Nat)) (i : Nat) (s s' : St) : Rs := if s'.grp = [] then (2, [nss N, nS, nvs s'.met, nvs s'.low, ovs s'.of, iv s'.n, nvs s'.stk, iv i]) else (3, [nss N, nvs s'.met, nvs s'.low, ovs s'.of, iv s'.n, nvs s'.stk, nss s'.grp, iv i])
theorem L26 (V : VisOk N vis) (hr : row.length ≤ 1000000000) {i : Nat} (hi : i < N.length) : ∀ (ks : List Nat) (j : Nat) (s s' : St), row.drop j = ks → (∀ k ∈ ks, k < N.length) → WF N s → s.grp = [] → edges vis i ks s = some s' →
    ev (q25ab0c (iv (j : Int)) (iv row.length) (nvs row) (iv i) (nss N) (nvs s.met) (nvs s.low) (ovs s.of) (iv s.n) (nvs s.stk)) = some (ans26 N i s s')
  | [], j, s, s', hd, hks, hw, hg, h => by
    have hj : ¬ (j : Int) < row.length := by have := congrArg List.length hd; simp at this; omega
    cases h
    refine Evl.of ?_
    rw [h25ab0c, g25ab0c]
    simp [hj, ans26, hg]
  | k :: ks, j, s, s', hd, hks, hw, hg, h => by
    have hx : row[j]? = some k := by have := congrArg List.head? hd; rwa [List.head?_drop] at this
    have hj : (j : Int) < row.length := by have := (List.getElem?_eq_some_iff.1 hx).1; omega
    have hd' : row.drop (j + 1) = ks := by rw [← List.drop_drop, hd]; rfl
    have hk := hks k (List.mem_cons_self ..)
    have hks' : ∀ k ∈ ks, k < N.length := fun k h => hks k (List.mem_cons_of_mem _ h)
    have e0 := wr (n := j) (by omega)
    rw [edges] at h
    refine Evl.of ?_
    rw [h25ab0c, g25ab0c]
    by_cases h0 : mt s k = 0
    · rw [if_pos h0] at h
      have hm : s.met[k]? = some 0 := at_of h0 (by rw [hw.m]; exact hk)
      split at h
      · cases h
      · rename_i s1 h1
        obtain ⟨hw1, hk1, hn1⟩ := V.keep k s s1 hk hw h0 h1
        have hc := V.c k s s1 hk hw h0 h1 hg
        obtain ⟨hw2, hk2⟩ := edges_keep V.keep ks _ s' hks' (hw1.low i _) h
        have hk2' : Keep s1 s' := (Keep.low i _ s1).trans hk2
        have hli : s1.low[i]? = some (lw s1 i) := at_of rfl (by rw [hw1.l]; exact hi)
        have hlk : s1.low[k]? = some (lw s1 k) := at_of rfl (by rw [hw1.l]; exact hk)
        have hset := fun kp => set_nvs (d := Res.fail) (kp := kp) (l := s1.low) (x := min (lw s1 i) (lw s1 k)) (i := i) (by rw [hw1.l]; exact hi)
        have hn' : ¬ s'.n = s.n := by have := hk2'.kn; omega
        by_cases hf : s1.grp = []
        · have ih := L26 V hr hi ks (j + 1) (setLow i (min (lw s1 i) (lw s1 k)) s1) s' hd' hks' (hw1.low i _) (hf : _) h
          simp only [setLow, c1] at ih
          rw [ansC, if_pos hf] at hc
          have hgn : True := trivial
          have ea : ans26 N i { s1 with low := s1.low.set i (min (lw s1 i) (lw s1 k)) } s' = ans26 N i s s' := by
            simp [ans26, ans26, hn', hgn]
          rw [ea] at ih
          simp [-mxK_min, hj, idx_nvs hx, idx_nvs hm, hc, idx_nvs hli, idx_nvs hlk, mx_n, hset, e0, c1, ih]
        · have ih := L27 V hr hi ks (j + 1) (setLow i (min (lw s1 i) (lw s1 k)) s1) s' hd' hks' (hw1.low i _) (hf : _) h
          simp only [setLow, c1] at ih
          rw [ansC, if_neg hf] at hc
          have hgn : s'.grp ≠ [] := grp_ne hk2' hf
          have ea : ans27 N i { s1 with low := s1.low.set i (min (lw s1 i) (lw s1 k)) } s' = ans26 N i s s' := by
            simp [ans27, ans26, hn', hgn]
          rw [ea] at ih
          simp [-mxK_min, hj, idx_nvs hx, idx_nvs hm, hc, idx_nvs hli, idx_nvs hlk, mx_n, hset, e0, c1, ih]
    · rw [if_neg h0] at h
      have hm : s.met[k]? = some (mt s k) := at_of rfl (by rw [hw.m]; exact hk)
      have hli : s.low[i]? = some (lw s i) := at_of rfl (by rw [hw.l]; exact hi)
      have ho : s.of[k]? = some (gof s k) := at_ofO rfl (by rw [hw.o]; exact hk)
      have hset := fun kp => set_nvs (d := Res.fail) (kp := kp) (l := s.low) (x := min (lw s i) (mt s k)) (i := i) (by rw [hw.l]; exact hi)
      by_cases ho0 : gof s k = none
      · rw [if_pos ho0] at h
        rw [ho0] at ho
        have ih := L26 V hr hi ks (j + 1) (setLow i (min (lw s i) (mt s k)) s) s' hd' hks' (hw.low i _) hg h
        simp only [setLow, c1] at ih
        have ea : ans26 N i { s with low := s.low.set i (min (lw s i) (mt s k)) } s' = ans26 N i s s' := rfl
        rw [ea] at ih
        simp [-mxK_min, hj, idx_nvs hx, idx_nvs hm, h0, idx_ovs ho, eO, idx_nvs hli, mx_n, hset, e0, c1, ih]
      · rw [if_neg ho0] at h
        obtain ⟨g, hgo⟩ := Option.ne_none_iff_exists'.1 ho0
        rw [hgo] at ho
        have hneg : ¬ (g : Int) < 0 := by omega
        have ih := L26 V hr hi ks (j + 1) s s' hd' hks' hw hg h
        simp only [c1] at ih
        simp [-mxK_min, hj, idx_nvs hx, idx_nvs hm, h0, idx_ovs ho, eO, hneg, e0, c1, ih]
def ans24 (N : List (List Nat)) (i : Nat) (s s' : St) : Rs := if s'.n = s.n then (0, [nss N, nS, nvs s'.met, nvs s'.low, ovs s'.of, nvs s'.stk, iv s'.n, iv i]) else if s'.grp = [] then (2, [nss N, nS, nvs s'.met, nvs s'.low, ovs s'.of, iv s'.n, nvs s'.stk, iv i]) else (3, [nss N, nvs s'.met, nvs s'.low, ovs s'.of, iv s'.n, nvs s'.stk, nss s'.grp, iv i])
theorem L24 (V : VisOk N vis) (hr : row.length ≤ 1000000000) {i : Nat} (hi : i < N.length) : ∀ (ks : List Nat) (j : Nat) (s s' : St), row.drop j = ks → (∀ k ∈ ks, k < N.length) → WF N s → s.grp = [] → edges vis i ks s = some s' →
    ev (q25ab0a (iv (j : Int)) (iv row.length) (nvs row) (iv i) (nss N) (nvs s.met) (nvs s.low) (ovs s.of) (nvs s.stk) (iv s.n)) = some (ans24 N i s s')
  | [], j, s, s', hd, hks, hw, hg, h => by
    have hj : ¬ (j : Int) < row.length := by have := congrArg List.length hd; simp at this; omega
    cases h
    refine Evl.of ?_
    rw [h25ab0a, g25ab0a]
    simp [hj, ans24, hg]
  | k :: ks, j, s, s', hd, hks, hw, hg, h => by
    have hx : row[j]? = some k := by have := congrArg List.head? hd; rwa [List.head?_drop] at this
    have hj : (j : Int) < row.length := by have := (List.getElem?_eq_some_iff.1 hx).1; omega
    have hd' : row.drop (j + 1) = ks := by rw [← List.drop_drop, hd]; rfl
    have hk := hks k (List.mem_cons_self ..)
    have hks' : ∀ k ∈ ks, k < N.length := fun k h => hks k (List.mem_cons_of_mem _ h)
    have e0 := wr (n := j) (by omega)
    rw [edges] at h
    refine Evl.of ?_
    rw [h25ab0a, g25ab0a]
    by_cases h0 : mt s k = 0
    · rw [if_pos h0] at h
      have hm : s.met[k]? = some 0 := at_of h0 (by rw [hw.m]; exact hk)
      split at h
      · cases h
      · rename_i s1 h1
        obtain ⟨hw1, hk1, hn1⟩ := V.keep k s s1 hk hw h0 h1
        have hc := V.c k s s1 hk hw h0 h1 hg
        obtain ⟨hw2, hk2⟩ := edges_keep V.keep ks _ s' hks' (hw1.low i _) h
        have hk2' : Keep s1 s' := (Keep.low i _ s1).trans hk2
        have hli : s1.low[i]? = some (lw s1 i) := at_of rfl (by rw [hw1.l]; exact hi)
        have hlk : s1.low[k]? = some (lw s1 k) := at_of rfl (by rw [hw1.l]; exact hk)
        have hset := fun kp => set_nvs (d := Res.fail) (kp := kp) (l := s1.low) (x := min (lw s1 i) (lw s1 k)) (i := i) (by rw [hw1.l]; exact hi)
        have hn' : ¬ s'.n = s.n := by have := hk2'.kn; omega
        by_cases hf : s1.grp = []
        · have ih := L26 V hr hi ks (j + 1) (setLow i (min (lw s1 i) (lw s1 k)) s1) s' hd' hks' (hw1.low i _) (hf : _) h
          simp only [setLow, c1] at ih
          rw [ansC, if_pos hf] at hc
          have hgn : True := trivial
          have ea : ans26 N i { s1 with low := s1.low.set i (min (lw s1 i) (lw s1 k)) } s' = ans24 N i s s' := by
            simp [ans26, ans24, hn', hgn]
          rw [ea] at ih
          simp [-mxK_min, hj, idx_nvs hx, idx_nvs hm, hc, idx_nvs hli, idx_nvs hlk, mx_n, hset, e0, c1, ih]
        · have ih := L27 V hr hi ks (j + 1) (setLow i (min (lw s1 i) (lw s1 k)) s1) s' hd' hks' (hw1.low i _) (hf : _) h
          simp only [setLow, c1] at ih
          rw [ansC, if_neg hf] at hc
          have hgn : s'.grp ≠ [] := grp_ne hk2' hf
          have ea : ans27 N i { s1 with low := s1.low.set i (min (lw s1 i) (lw s1 k)) } s' = ans24 N i s s' := by
            simp [ans27, ans24, hn', hgn]
          rw [ea] at ih
          simp [-mxK_min, hj, idx_nvs hx, idx_nvs hm, hc, idx_nvs hli, idx_nvs hlk, mx_n, hset, e0, c1, ih]
    · rw [if_neg h0] at h
      have hm : s.met[k]? = some (mt s k) := at_of rfl (by rw [hw.m]; exact hk)
      have hli : s.low[i]? = some (lw s i) := at_of rfl (by rw [hw.l]; exact hi)
      have ho : s.of[k]? = some (gof s k) := at_ofO rfl (by rw [hw.o]; exact hk)
      have hset := fun kp => set_nvs (d := Res.fail) (kp := kp) (l := s.low) (x := min (lw s i) (mt s k)) (i := i) (by rw [hw.l]; exact hi)
      by_cases ho0 : gof s k = none
      · rw [if_pos ho0] at h
        rw [ho0] at ho
        have ih := L24 V hr hi ks (j + 1) (setLow i (min (lw s i) (mt s k)) s) s' hd' hks' (hw.low i _) hg h
        simp only [setLow, c1] at ih
        have ea : ans24 N i { s with low := s.low.set i (min (lw s i) (mt s k)) } s' = ans24 N i s s' := rfl
        rw [ea] at ih
        simp [-mxK_min, hj, idx_nvs hx, idx_nvs hm, h0, idx_ovs ho, eO, idx_nvs hli, mx_n, hset, e0, c1, ih]
      · rw [if_neg ho0] at h
        obtain ⟨g, hgo⟩ := Option.ne_none_iff_exists'.1 ho0
        rw [hgo] at ho
        have hneg : ¬ (g : Int) < 0 := by omega
        have ih := L24 V hr hi ks (j + 1) s s' hd' hks' hw hg h
        simp only [c1] at ih
        simp [-mxK_min, hj, idx_nvs hx, idx_nvs hm, h0, idx_ovs ho, eO, hneg, e0, c1, ih]
def ans34 (N : List (List Nat)) (i : Nat) (s s' : St) : Rs := (3, [nss N, nvs s'.met, nvs s'.low, ovs s'.of, iv s'.n, nvs s'.stk, nss s'.grp, iv i])
theorem L34 (V : VisOk N vis) (hr : row.length ≤ 1000000000) {i : Nat} (hi : i < N.length) : ∀ (ks : List Nat) (j : Nat) (s s' : St), row.drop j = ks → (∀ k ∈ ks, k < N.length) → WF N s → s.grp ≠ [] → edges vis i ks s = some s' →
    ev (q25bb0d (iv (j : Int)) (iv row.length) (nvs row) (iv i) (nss N) (nvs s.met) (nvs s.low) (ovs s.of) (iv s.n) (nvs s.stk) (nss s.grp)) = some (ans34 N i s s')
  | [], j, s, s', hd, hks, hw, hg, h => by
    have hj : ¬ (j : Int) < row.length := by have := congrArg List.length hd; simp at this; omega
    cases h
    refine Evl.of ?_
    rw [h25bb0d, g25bb0d]
    simp [hj, ans34, hg]
  | k :: ks, j, s, s', hd, hks, hw, hg, h => by
    have hx : row[j]? = some k := by have := congrArg List.head? hd; rwa [List.head?_drop] at this
    have hj : (j : Int) < row.length := by have := (List.getElem?_eq_some_iff.1 hx).1; omega
    have hd' : row.drop (j + 1) = ks := by rw [← List.drop_drop, hd]; rfl
    have hk := hks k (List.mem_cons_self ..)
    have hks' : ∀ k ∈ ks, k < N.length := fun k h => hks k (List.mem_cons_of_mem _ h)
    have e0 := wr (n := j) (by omega)
    rw [edges] at h
    refine Evl.of ?_
    rw [h25bb0d, g25bb0d]
    by_cases h0 : mt s k = 0
    · rw [if_pos h0] at h
      have hm : s.met[k]? = some 0 := at_of h0 (by rw [hw.m]; exact hk)
      split at h
      · cases h
      · rename_i s1 h1
        obtain ⟨hw1, hk1, hn1⟩ := V.keep k s s1 hk hw h0 h1
        have hc := V.d k s s1 hk hw h0 h1 hg
        obtain ⟨hw2, hk2⟩ := edges_keep V.keep ks _ s' hks' (hw1.low i _) h
        have hk2' : Keep s1 s' := (Keep.low i _ s1).trans hk2
        have hli : s1.low[i]? = some (lw s1 i) := at_of rfl (by rw [hw1.l]; exact hi)
        have hlk : s1.low[k]? = some (lw s1 k) := at_of rfl (by rw [hw1.l]; exact hk)
        have hset := fun kp => set_nvs (d := Res.fail) (kp := kp) (l := s1.low) (x := min (lw s1 i) (lw s1 k)) (i := i) (by rw [hw1.l]; exact hi)
        have hn' : ¬ s'.n = s.n := by have := hk2'.kn; omega
        by_cases hf : s1.grp = s.grp
        · have ih := L34 V hr hi ks (j + 1) (setLow i (min (lw s1 i) (lw s1 k)) s1) s' hd' hks' (hw1.low i _) (grp_ne hk1 hg : _) h
          simp only [setLow, c1] at ih
          rw [ansD, if_pos hf] at hc
          have hgn : True := trivial
          have ea : ans34 N i { s1 with low := s1.low.set i (min (lw s1 i) (lw s1 k)) } s' = ans34 N i s s' := by
            simp [ans34, ans34, hn', hgn, hf]
          rw [ea] at ih
          rw [hf] at hc ih
          simp [-mxK_min, hj, idx_nvs hx, idx_nvs hm, hc, idx_nvs hli, idx_nvs hlk, mx_n, hset, e0, c1, ih]
        · have ih := L34 V hr hi ks (j + 1) (setLow i (min (lw s1 i) (lw s1 k)) s1) s' hd' hks' (hw1.low i _) (grp_ne hk1 hg : _) h
          simp only [setLow, c1] at ih
          rw [ansD, if_neg hf] at hc
          have hgn : s'.grp ≠ s.grp := grp_ne2 hk1 hk2' hf
          have ea : ans34 N i { s1 with low := s1.low.set i (min (lw s1 i) (lw s1 k)) } s' = ans34 N i s s' := by
            simp [ans34, ans34, hn', hgn]
          rw [ea] at ih
          simp [-mxK_min, hj, idx_nvs hx, idx_nvs hm, hc, idx_nvs hli, idx_nvs hlk, mx_n, hset, e0, c1, ih]
    · rw [if_neg h0] at h
      have hm : s.met[k]? = some (mt s k) := at_of rfl (by rw [hw.m]; exact hk)
      have hli : s.low[i]? = some (lw s i) := at_of rfl (by rw [hw.l]; exact hi)
      have ho : s.of[k]? = some (gof s k) := at_ofO rfl (by rw [hw.o]; exact hk)
      have hset := fun kp => set_nvs (d := Res.fail) (kp := kp) (l := s.low) (x := min (lw s i) (mt s k)) (i := i) (by rw [hw.l]; exact hi)
      by_cases ho0 : gof s k = none
      · rw [if_pos ho0] at h
        rw [ho0] at ho
        have ih := L34 V hr hi ks (j + 1) (setLow i (min (lw s i) (mt s k)) s) s' hd' hks' (hw.low i _) hg h
        simp only [setLow, c1] at ih
        have ea : ans34 N i { s with low := s.low.set i (min (lw s i) (mt s k)) } s' = ans34 N i s s' := rfl
        rw [ea] at ih
        simp [-mxK_min, hj, idx_nvs hx, idx_nvs hm, h0, idx_ovs ho, eO, idx_nvs hli, mx_n, hset, e0, c1, ih]
      · rw [if_neg ho0] at h
        obtain ⟨g, hgo⟩ := Option.ne_none_iff_exists'.1 ho0
        rw [hgo] at ho
        have hneg : ¬ (g : Int) < 0 := by omega
        have ih := L34 V hr hi ks (j + 1) s s' hd' hks' hw hg h
        simp only [c1] at ih
        simp [-mxK_min, hj, idx_nvs hx, idx_nvs hm, h0, idx_ovs ho, eO, hneg, e0, c1, ih]
def ans33 (N : List (List Nat)) (i : Nat) (s s' : St) : Rs := if s'.grp = s.grp then (2, [nss N, nvs s'.met, nvs s'.low, ovs s'.of, nss s'.grp, iv s'.n, nvs s'.stk, iv i]) else (3, [nss N, nvs s'.met, nvs s'.low, ovs s'.of, iv s'.n, nvs s'.stk, nss s'.grp, iv i])
theorem L33 (V : VisOk N vis) (hr : row.length ≤ 1000000000) {i : Nat} (hi : i < N.length) : ∀ (ks : List Nat) (j : Nat) (s s' : St), row.drop j = ks → (∀ k ∈ ks, k < N.length) → WF N s → s.grp ≠ [] → edges vis i ks s = some s' →
    ev (q25bb0c (iv (j : Int)) (iv row.length) (nvs row) (iv i) (nss N) (nvs s.met) (nvs s.low) (ovs s.of) (nss s.grp) (iv s.n) (nvs s.stk)) = some (ans33 N i s s')
  | [], j, s, s', hd, hks, hw, hg, h => by
    have hj : ¬ (j : Int) < row.length := by have := congrArg List.length hd; simp at this; omega
    cases h
    refine Evl.of ?_
    rw [h25bb0c, g25bb0c]
    simp [hj, ans33, hg]
  | k :: ks, j, s, s', hd, hks, hw, hg, h => by
    have hx : row[j]? = some k := by have := congrArg List.head? hd; rwa [List.head?_drop] at this
    have hj : (j : Int) < row.length := by have := (List.getElem?_eq_some_iff.1 hx).1; omega
    have hd' : row.drop (j + 1) = ks := by rw [← List.drop_drop, hd]; rfl
    have hk := hks k (List.mem_cons_self ..)
    have hks' : ∀ k ∈ ks, k < N.length := fun k h => hks k (List.mem_cons_of_mem _ h)
    have e0 := wr (n := j) (by omega)
    rw [edges] at h
    refine Evl.of ?_
    rw [h25bb0c, g25bb0c]
    by_cases h0 : mt s k = 0
    · rw [if_pos h0] at h
      have hm : s.met[k]? = some 0 := at_of h0 (by rw [hw.m]; exact hk)
      split at h
      · cases h
      · rename_i s1 h1
        obtain ⟨hw1, hk1, hn1⟩ := V.keep k s s1 hk hw h0 h1
        have hc := V.d k s s1 hk hw h0 h1 hg
        obtain ⟨hw2, hk2⟩ := edges_keep V.keep ks _ s' hks' (hw1.low i _) h
        have hk2' : Keep s1 s' := (Keep.low i _ s1).trans hk2
        have hli : s1.low[i]? = some (lw s1 i) := at_of rfl (by rw [hw1.l]; exact hi)
        have hlk : s1.low[k]? = some (lw s1 k) := at_of rfl (by rw [hw1.l]; exact hk)
        have hset := fun kp => set_nvs (d := Res.fail) (kp := kp) (l := s1.low) (x := min (lw s1 i) (lw s1 k)) (i := i) (by rw [hw1.l]; exact hi)
        have hn' : ¬ s'.n = s.n := by have := hk2'.kn; omega
        by_cases hf : s1.grp = s.grp
        · have ih := L33 V hr hi ks (j + 1) (setLow i (min (lw s1 i) (lw s1 k)) s1) s' hd' hks' (hw1.low i _) (grp_ne hk1 hg : _) h
          simp only [setLow, c1] at ih
          rw [ansD, if_pos hf] at hc
          have hgn : True := trivial
          have ea : ans33 N i { s1 with low := s1.low.set i (min (lw s1 i) (lw s1 k)) } s' = ans33 N i s s' := by
            simp [ans33, ans33, hn', hgn, hf]
          rw [ea] at ih
          rw [hf] at hc ih
          simp [-mxK_min, hj, idx_nvs hx, idx_nvs hm, hc, idx_nvs hli, idx_nvs hlk, mx_n, hset, e0, c1, ih]
        · have ih := L34 V hr hi ks (j + 1) (setLow i (min (lw s1 i) (lw s1 k)) s1) s' hd' hks' (hw1.low i _) (grp_ne hk1 hg : _) h
          simp only [setLow, c1] at ih
          rw [ansD, if_neg hf] at hc
          have hgn : s'.grp ≠ s.grp := grp_ne2 hk1 hk2' hf
          have ea : ans34 N i { s1 with low := s1.low.set i (min (lw s1 i) (lw s1 k)) } s' = ans33 N i s s' := by
            simp [ans34, ans33, hn', hgn]
          rw [ea] at ih
          simp [-mxK_min, hj, idx_nvs hx, idx_nvs hm, hc, idx_nvs hli, idx_nvs hlk, mx_n, hset, e0, c1, ih]
    · rw [if_neg h0] at h
      have hm : s.met[k]? = some (mt s k) := at_of rfl (by rw [hw.m]; exact hk)
      have hli : s.low[i]? = some (lw s i) := at_of rfl (by rw [hw.l]; exact hi)
      have ho : s.of[k]? = some (gof s k) := at_ofO rfl (by rw [hw.o]; exact hk)
      have hset := fun kp => set_nvs (d := Res.fail) (kp := kp) (l := s.low) (x := min (lw s i) (mt s k)) (i := i) (by rw [hw.l]; exact hi)
      by_cases ho0 : gof s k = none
      · rw [if_pos ho0] at h
        rw [ho0] at ho
        have ih := L33 V hr hi ks (j + 1) (setLow i (min (lw s i) (mt s k)) s) s' hd' hks' (hw.low i _) hg h
        simp only [setLow, c1] at ih
        have ea : ans33 N i { s with low := s.low.set i (min (lw s i) (mt s k)) } s' = ans33 N i s s' := rfl
        rw [ea] at ih
        simp [-mxK_min, hj, idx_nvs hx, idx_nvs hm, h0, idx_ovs ho, eO, idx_nvs hli, mx_n, hset, e0, c1, ih]
      · rw [if_neg ho0] at h
        obtain ⟨g, hgo⟩ := Option.ne_none_iff_exists'.1 ho0
        rw [hgo] at ho
        have hneg : ¬ (g : Int) < 0 := by omega
        have ih := L33 V hr hi ks (j + 1) s s' hd' hks' hw hg h
        simp only [c1] at ih
        simp [-mxK_min, hj, idx_nvs hx, idx_nvs hm, h0, idx_ovs ho, eO, hneg, e0, c1, ih]
def ans31 (N : List (List Nat)) (i : Nat) (s s' : St) : Rs := if s'.n = s.n then (0, [nss N, nvs s'.met, nvs s'.low, ovs s'.of, nvs s'.stk, nss s'.grp, iv s'.n, iv i]) else if s'.grp = s.grp then (2, [nss N, nvs s'.met, nvs s'.low, ovs s'.of, nss s'.grp, iv s'.n, nvs s'.stk, iv i]) else (3, [nss N, nvs s'.met, nvs s'.low, ovs s'.of, iv s'.n, nvs s'.stk, nss s'.grp, iv i])
theorem L31 (V : VisOk N vis) (hr : row.length ≤ 1000000000) {i : Nat} (hi : i < N.length) : ∀ (ks : List Nat) (j : Nat) (s s' : St), row.drop j = ks → (∀ k ∈ ks, k < N.length) → WF N s → s.grp ≠ [] → edges vis i ks s = some s' →
    ev (q25bb0a (iv (j : Int)) (iv row.length) (nvs row) (iv i) (nss N) (nvs s.met) (nvs s.low) (ovs s.of) (nvs s.stk) (nss s.grp) (iv s.n)) = some (ans31 N i s s')
  | [], j, s, s', hd, hks, hw, hg, h => by
    have hj : ¬ (j : Int) < row.length := by have := congrArg List.length hd; simp at this; omega
    cases h
    refine Evl.of ?_
    rw [h25bb0a, g25bb0a]
    simp [hj, ans31, hg]
  | k :: ks, j, s, s', hd, hks, hw, hg, h => by
    have hx : row[j]? = some k := by have := congrArg List.head? hd; rwa [List.head?_drop] at this
    have hj : (j : Int) < row.length := by have := (List.getElem?_eq_some_iff.1 hx).1; omega
    have hd' : row.drop (j + 1) = ks := by rw [← List.drop_drop, hd]; rfl
    have hk := hks k (List.mem_cons_self ..)
    have hks' : ∀ k ∈ ks, k < N.length := fun k h => hks k (List.mem_cons_of_mem _ h)
    have e0 := wr (n := j) (by omega)
    rw [edges] at h
    refine Evl.of ?_
    rw [h25bb0a, g25bb0a]
    by_cases h0 : mt s k = 0
    · rw [if_pos h0] at h
      have hm : s.met[k]? = some 0 := at_of h0 (by rw [hw.m]; exact hk)
      split at h
      · cases h
      · rename_i s1 h1
        obtain ⟨hw1, hk1, hn1⟩ := V.keep k s s1 hk hw h0 h1
        have hc := V.d k s s1 hk hw h0 h1 hg
        obtain ⟨hw2, hk2⟩ := edges_keep V.keep ks _ s' hks' (hw1.low i _) h
        have hk2' : Keep s1 s' := (Keep.low i _ s1).trans hk2
        have hli : s1.low[i]? = some (lw s1 i) := at_of rfl (by rw [hw1.l]; exact hi)
        have hlk : s1.low[k]? = some (lw s1 k) := at_of rfl (by rw [hw1.l]; exact hk)
        have hset := fun kp => set_nvs (d := Res.fail) (kp := kp) (l := s1.low) (x := min (lw s1 i) (lw s1 k)) (i := i) (by rw [hw1.l]; exact hi)
        have hn' : ¬ s'.n = s.n := by have := hk2'.kn; omega
        by_cases hf : s1.grp = s.grp
        · have ih := L33 V hr hi ks (j + 1) (setLow i (min (lw s1 i) (lw s1 k)) s1) s' hd' hks' (hw1.low i _) (grp_ne hk1 hg : _) h
          simp only [setLow, c1] at ih
          rw [ansD, if_pos hf] at hc
          have hgn : True := trivial
          have ea : ans33 N i { s1 with low := s1.low.set i (min (lw s1 i) (lw s1 k)) } s' = ans31 N i s s' := by
            simp [ans33, ans31, hn', hgn, hf]
          rw [ea] at ih
          rw [hf] at hc ih
          simp [-mxK_min, hj, idx_nvs hx, idx_nvs hm, hc, idx_nvs hli, idx_nvs hlk, mx_n, hset, e0, c1, ih]
        · have ih := L34 V hr hi ks (j + 1) (setLow i (min (lw s1 i) (lw s1 k)) s1) s' hd' hks' (hw1.low i _) (grp_ne hk1 hg : _) h
          simp only [setLow, c1] at ih
          rw [ansD, if_neg hf] at hc
          have hgn : s'.grp ≠ s.grp := grp_ne2 hk1 hk2' hf
          have ea : ans34 N i { s1 with low := s1.low.set i (min (lw s1 i) (lw s1 k)) } s' = ans31 N i s s' := by
            simp [ans34, ans31, hn', hgn]
          rw [ea] at ih
          simp [-mxK_min, hj, idx_nvs hx, idx_nvs hm, hc, idx_nvs hli, idx_nvs hlk, mx_n, hset, e0, c1, ih]
    · rw [if_neg h0] at h
      have hm : s.met[k]? = some (mt s k) := at_of rfl (by rw [hw.m]; exact hk)
      have hli : s.low[i]? = some (lw s i) := at_of rfl (by rw [hw.l]; exact hi)
      have ho : s.of[k]? = some (gof s k) := at_ofO rfl (by rw [hw.o]; exact hk)
      have hset := fun kp => set_nvs (d := Res.fail) (kp := kp) (l := s.low) (x := min (lw s i) (mt s k)) (i := i) (by rw [hw.l]; exact hi)
      by_cases ho0 : gof s k = none
      · rw [if_pos ho0] at h
        rw [ho0] at ho
        have ih := L31 V hr hi ks (j + 1) (setLow i (min (lw s i) (mt s k)) s) s' hd' hks' (hw.low i _) hg h
        simp only [setLow, c1] at ih
        have ea : ans31 N i { s with low := s.low.set i (min (lw s i) (mt s k)) } s' = ans31 N i s s' := rfl
        rw [ea] at ih
        simp [-mxK_min, hj, idx_nvs hx, idx_nvs hm, h0, idx_ovs ho, eO, idx_nvs hli, mx_n, hset, e0, c1, ih]
      · rw [if_neg ho0] at h
        obtain ⟨g, hgo⟩ := Option.ne_none_iff_exists'.1 ho0
        rw [hgo] at ho
        have hneg : ¬ (g : Int) < 0 := by omega
        have ih := L31 V hr hi ks (j + 1) s s' hd' hks' hw hg h
        simp only [c1] at ih
        simp [-mxK_min, hj, idx_nvs hx, idx_nvs hm, h0, idx_ovs ho, eO, hneg, e0, c1, ih]
end

theorem nrow_at {N : List (List Nat)} {i : Nat} (h : i < N.length) : N[i]? = some (N.getD i []) := by
  rw [List.getD_eq_getElem?_getD, List.getElem?_eq_getElem h]; rfl
theorem top_lt {N : List (List Nat)} {s : St} (h : WF N s) (i : Nat) : ∀ k ∈ top i s, k < N.length := fun k hk =>
  (h.sk k (List.mem_of_mem_drop ((sortN_perm _).subset hk))).1
theorem top_len (i : Nat) (s : St) : (top i s).length = (s.stk.drop (s.stk.idxOf i)).length := (sortN_perm _).length_eq
structure Bnd (N : List (List Nat)) : Prop where
  rng : Rng N
  len : N.length ≤ 100000
  row : ∀ l ∈ N, l.length ≤ 1000000000
theorem stk_le {N : List (List Nat)} (hB : Bnd N) {s : St} (h : WF N s) : s.stk.length ≤ 100000 ∧ s.grp.length ≤ 100000 ∧ s.n ≤ 100000 := by
  have := h.c
  have := h.gs
  have := hB.len
  omega
section
variable {N : List (List Nat)} {f : Nat}

theorem vis_a (V : VisOk N (visF N f)) (hB : Bnd N) {i : Nat} {s s' : St} (hi : i < N.length) (hw : WF N s) (h0 : mt s i = 0) (h : visF N (f + 1) i s = some s') : s.grp = [] → s.stk = [] → ev (q25a (iv i) (iv s.n) (nss N) (nvs s.met) (nvs s.low) (ovs s.of)) = some (ansC N s') := fun hg hs => by
  rw [visF] at h
  split at h
  · cases h
  rename_i s2 h1
  cases h
  have hw1 := hw.push hi h0
  have hk1 := Keep.push hw hi h0
  obtain ⟨hw2, hk2⟩ := edges_keep V.keep _ _ _ (hB.rng.at i) hw1 h1
  have hrow := nrow_at hi
  have hL := L24 V (hB.row _ (List.mem_of_getElem? hrow)) hi _ 0 (pushS i s) s2 rfl (hB.rng.at i) hw1 hg h1
  obtain ⟨M, hM⟩ : ∃ M, M = s.n + 1 := ⟨_, rfl⟩
  obtain ⟨b1, b2, b3⟩ := stk_le hB hw
  have e1 : IntKind.i64.wrap ((s.n : Int) + 1) = (M : Int) := by rw [hM]; exact wr (by omega)
  have hm : s.met[i]? = some 0 := at_of h0 (by rw [hw.m]; exact hi)
  have hl : s.low[i]? = some (lw s i) := at_of rfl (by rw [hw.l]; exact hi)
  have hs1 := fun kp => set_nvs (d := Res.fail) (kp := kp) (l := s.met) (x := M) (i := i) (by rw [hw.m]; exact hi)
  have hs2 := fun kp => set_nvs (d := Res.fail) (kp := kp) (l := s.low) (x := M) (i := i) (by rw [hw.l]; exact hi)
  have hap := fun kp => apn_nvs (d := Res.fail) (kp := kp) (x := i)
  simp only [Int.natCast_zero, Int.ofNat_zero] at hL
  have hpm : (pushS i s).met = s.met.set i M := by rw [hM]; rfl
  have hpl : (pushS i s).low = s.low.set i M := by rw [hM]; rfl
  have hpo : (pushS i s).of = s.of := rfl
  have hpg : (pushS i s).grp = s.grp := rfl
  have hpn : (pushS i s).n = M := hM.symm
  have hps : (pushS i s).stk = s.stk ++ [i] := rfl
  rw [hpm, hpl, hpo, hpn, hps] at hL
  generalize N.getD i [] = row at hrow hL
  rw [hs, List.nil_append] at hL
  have hm2 : s2.met[i]? = some (mt s2 i) := at_of rfl (by rw [hw2.m]; exact hi)
  have hl2 : s2.low[i]? = some (lw s2 i) := at_of rfl (by rw [hw2.l]; exact hi)
  have hin : i ∈ s2.stk := hk2.ks.subset (by simp [pushS])
  obtain ⟨c1', c2', c3'⟩ := stk_le hB hw2
  have hix := index_ev (l := s2.stk) (by omega) hin
  have hlt := List.idxOf_lt_length_iff.2 hin
  have hdr := fun k => drop_nvs (d := Res.fail) (k := k) (l := s2.stk) (i := s2.stk.idxOf i) (Nat.le_of_lt hlt)
  have htk := fun k => take_nvs (d := Res.fail) (k := k) (l := s2.stk) (i := s2.stk.idxOf i) (Nat.le_of_lt hlt)
  have hval := values_ev (iv (s2.stk.idxOf i : Nat)) (nvs (s2.stk.drop (s2.stk.idxOf i))) (nvs s2.stk)
  have hsr := sorted_ev (l := s2.stk) (a := s2.stk.idxOf i) (by omega) (Nat.le_of_lt hlt)
  have htl : (top i s2).length ≤ 1000000000 := by rw [top_len, List.length_drop]; omega
  have hma := mark_a N (top i s2) htl (nvs s2.met) (nvs s2.low) (nvs (s2.stk.take (s2.stk.idxOf i))) N.length (top i s2) 0 s2.of hw2.o (top_lt hw2 i) rfl
  have hmb := mark_b N (top i s2) htl (nvs s2.met) (nvs s2.low) (nvs (s2.stk.take (s2.stk.idxOf i))) s2.grp N.length (top i s2) 0 s2.of hw2.o (top_lt hw2 i) rfl
  have hag := fun kp => app_nss (d := Res.fail) (kp := kp) (l := s2.grp) (x := top i s2) (by omega)
  have han := fun kp => apn_nss (d := Res.fail) (kp := kp) (x := top i s2)
  rw [show sortN (s2.stk.drop (s2.stk.idxOf i)) = top i s2 from rfl] at hsr
  simp only [Int.natCast_zero, Int.ofNat_zero] at hma hmb
  refine Evl.of ?_
  rw [h25a, g25a]
  by_cases hn : s2.n = M
  · obtain ⟨hgn, hsn⟩ := hk2.k0 (by rw [hpn]; exact hn)
    rw [hpg, hg] at hgn
    rw [hps] at hsn
    rw [ans24, if_pos (by rw [hpn]; exact hn)] at hL
    rw [hs, List.nil_append] at hsn
    rw [hgn, List.length_nil] at hmb
    rw [hgn] at hag
    simp only [← hsn] at hL hap
    by_cases hlo : lw s2 i < mt s2 i
    · have hlo' : (lw s2 i : Int) < mt s2 i := by omega
      rw [closeS_same hlo]
      simp [-mxK_min, e1, idx_nvs hm, idx_nvs hl, hs1, hs2, hap, idx_nss hrow, hL, idx_nvs hm2, idx_nvs hl2, hlo', ansC, hgn]
    · have hlo' : ¬ (lw s2 i : Int) < mt s2 i := by omega
      rw [closeS_pop hlo]
      have hne : ¬ s2.grp ++ [top i s2] = [] := by simp
      simp [-mxK_min, e1, idx_nvs hm, idx_nvs hl, hs1, hs2, hap, idx_nss hrow, hL, idx_nvs hm2, idx_nvs hl2, hlo', hix, hdr, hval, hsr, htk, hma, hag, han, ansC, hgn, hne]
  · rw [ans24, if_neg (by rw [hpn]; exact hn)] at hL
    by_cases hgn : s2.grp = []
    · rw [if_pos hgn] at hL
      rw [hgn, List.length_nil] at hmb
      rw [hgn] at hag
      by_cases hlo : lw s2 i < mt s2 i
      · have hlo' : (lw s2 i : Int) < mt s2 i := by omega
        rw [closeS_same hlo]
        simp [-mxK_min, e1, idx_nvs hm, idx_nvs hl, hs1, hs2, hap, idx_nss hrow, hL, idx_nvs hm2, idx_nvs hl2, hlo', ansC, hgn]
      · have hlo' : ¬ (lw s2 i : Int) < mt s2 i := by omega
        rw [closeS_pop hlo]
        have hne : ¬ s2.grp ++ [top i s2] = [] := by simp
        simp [-mxK_min, e1, idx_nvs hm, idx_nvs hl, hs1, hs2, hap, idx_nss hrow, hL, idx_nvs hm2, idx_nvs hl2, hlo', hix, hdr, hval, hsr, htk, hma, hag, han, ansC, hgn, hne]
    · rw [if_neg hgn] at hL
      by_cases hlo : lw s2 i < mt s2 i
      · have hlo' : (lw s2 i : Int) < mt s2 i := by omega
        rw [closeS_same hlo]
        simp [-mxK_min, e1, idx_nvs hm, idx_nvs hl, hs1, hs2, hap, idx_nss hrow, hL, idx_nvs hm2, idx_nvs hl2, hlo', ansC, hgn]
      · have hlo' : ¬ (lw s2 i : Int) < mt s2 i := by omega
        rw [closeS_pop hlo]
        have hne : ¬ s2.grp ++ [top i s2] = [] := by simp
        simp [-mxK_min, e1, idx_nvs hm, idx_nvs hl, hs1, hs2, hap, idx_nss hrow, hL, idx_nvs hm2, idx_nvs hl2, hlo', hix, hdr, hval, hsr, htk, hmb, hag, han, ansC, hgn, hne]

theorem vis_c (V : VisOk N (visF N f)) (hB : Bnd N) {i : Nat} {s s' : St} (hi : i < N.length) (hw : WF N s) (h0 : mt s i = 0) (h : visF N (f + 1) i s = some s') : s.grp = [] → ev (q25c (iv i) (iv s.n) (nss N) (nvs s.met) (nvs s.low) (ovs s.of) (nvs s.stk)) = some (ansC N s') := fun hg => by
  rw [visF] at h
  split at h
  · cases h
  rename_i s2 h1
  cases h
  have hw1 := hw.push hi h0
  have hk1 := Keep.push hw hi h0
  obtain ⟨hw2, hk2⟩ := edges_keep V.keep _ _ _ (hB.rng.at i) hw1 h1
  have hrow := nrow_at hi
  have hL := L24 V (hB.row _ (List.mem_of_getElem? hrow)) hi _ 0 (pushS i s) s2 rfl (hB.rng.at i) hw1 hg h1
  obtain ⟨M, hM⟩ : ∃ M, M = s.n + 1 := ⟨_, rfl⟩
  obtain ⟨b1, b2, b3⟩ := stk_le hB hw
  have e1 : IntKind.i64.wrap ((s.n : Int) + 1) = (M : Int) := by rw [hM]; exact wr (by omega)
  have hm : s.met[i]? = some 0 := at_of h0 (by rw [hw.m]; exact hi)
  have hl : s.low[i]? = some (lw s i) := at_of rfl (by rw [hw.l]; exact hi)
  have hs1 := fun kp => set_nvs (d := Res.fail) (kp := kp) (l := s.met) (x := M) (i := i) (by rw [hw.m]; exact hi)
  have hs2 := fun kp => set_nvs (d := Res.fail) (kp := kp) (l := s.low) (x := M) (i := i) (by rw [hw.l]; exact hi)
  have hap := fun kp => app_nvs (d := Res.fail) (kp := kp) (l := s.stk) (x := i) (by omega)
  simp only [Int.natCast_zero, Int.ofNat_zero] at hL
  have hpm : (pushS i s).met = s.met.set i M := by rw [hM]; rfl
  have hpl : (pushS i s).low = s.low.set i M := by rw [hM]; rfl
  have hpo : (pushS i s).of = s.of := rfl
  have hpg : (pushS i s).grp = s.grp := rfl
  have hpn : (pushS i s).n = M := hM.symm
  have hps : (pushS i s).stk = s.stk ++ [i] := rfl
  rw [hpm, hpl, hpo, hpn, hps] at hL
  generalize N.getD i [] = row at hrow hL
  have hm2 : s2.met[i]? = some (mt s2 i) := at_of rfl (by rw [hw2.m]; exact hi)
  have hl2 : s2.low[i]? = some (lw s2 i) := at_of rfl (by rw [hw2.l]; exact hi)
  have hin : i ∈ s2.stk := hk2.ks.subset (by simp [pushS])
  obtain ⟨c1', c2', c3'⟩ := stk_le hB hw2
  have hix := index_ev (l := s2.stk) (by omega) hin
  have hlt := List.idxOf_lt_length_iff.2 hin
  have hdr := fun k => drop_nvs (d := Res.fail) (k := k) (l := s2.stk) (i := s2.stk.idxOf i) (Nat.le_of_lt hlt)
  have htk := fun k => take_nvs (d := Res.fail) (k := k) (l := s2.stk) (i := s2.stk.idxOf i) (Nat.le_of_lt hlt)
  have hval := values_ev (iv (s2.stk.idxOf i : Nat)) (nvs (s2.stk.drop (s2.stk.idxOf i))) (nvs s2.stk)
  have hsr := sorted_ev (l := s2.stk) (a := s2.stk.idxOf i) (by omega) (Nat.le_of_lt hlt)
  have htl : (top i s2).length ≤ 1000000000 := by rw [top_len, List.length_drop]; omega
  have hma := mark_a N (top i s2) htl (nvs s2.met) (nvs s2.low) (nvs (s2.stk.take (s2.stk.idxOf i))) N.length (top i s2) 0 s2.of hw2.o (top_lt hw2 i) rfl
  have hmb := mark_b N (top i s2) htl (nvs s2.met) (nvs s2.low) (nvs (s2.stk.take (s2.stk.idxOf i))) s2.grp N.length (top i s2) 0 s2.of hw2.o (top_lt hw2 i) rfl
  have hag := fun kp => app_nss (d := Res.fail) (kp := kp) (l := s2.grp) (x := top i s2) (by omega)
  have han := fun kp => apn_nss (d := Res.fail) (kp := kp) (x := top i s2)
  rw [show sortN (s2.stk.drop (s2.stk.idxOf i)) = top i s2 from rfl] at hsr
  simp only [Int.natCast_zero, Int.ofNat_zero] at hma hmb
  refine Evl.of ?_
  rw [h25c, g25c]
  by_cases hn : s2.n = M
  · obtain ⟨hgn, hsn⟩ := hk2.k0 (by rw [hpn]; exact hn)
    rw [hpg, hg] at hgn
    rw [hps] at hsn
    rw [ans24, if_pos (by rw [hpn]; exact hn)] at hL
    rw [hgn, List.length_nil] at hmb
    rw [hgn] at hag
    simp only [← hsn] at hL hap
    by_cases hlo : lw s2 i < mt s2 i
    · have hlo' : (lw s2 i : Int) < mt s2 i := by omega
      rw [closeS_same hlo]
      simp [-mxK_min, e1, idx_nvs hm, idx_nvs hl, hs1, hs2, hap, idx_nss hrow, hL, idx_nvs hm2, idx_nvs hl2, hlo', ansC, hgn]
    · have hlo' : ¬ (lw s2 i : Int) < mt s2 i := by omega
      rw [closeS_pop hlo]
      have hne : ¬ s2.grp ++ [top i s2] = [] := by simp
      simp [-mxK_min, e1, idx_nvs hm, idx_nvs hl, hs1, hs2, hap, idx_nss hrow, hL, idx_nvs hm2, idx_nvs hl2, hlo', hix, hdr, hval, hsr, htk, hma, hag, han, ansC, hgn, hne]
  · rw [ans24, if_neg (by rw [hpn]; exact hn)] at hL
    by_cases hgn : s2.grp = []
    · rw [if_pos hgn] at hL
      rw [hgn, List.length_nil] at hmb
      rw [hgn] at hag
      by_cases hlo : lw s2 i < mt s2 i
      · have hlo' : (lw s2 i : Int) < mt s2 i := by omega
        rw [closeS_same hlo]
        simp [-mxK_min, e1, idx_nvs hm, idx_nvs hl, hs1, hs2, hap, idx_nss hrow, hL, idx_nvs hm2, idx_nvs hl2, hlo', ansC, hgn]
      · have hlo' : ¬ (lw s2 i : Int) < mt s2 i := by omega
        rw [closeS_pop hlo]
        have hne : ¬ s2.grp ++ [top i s2] = [] := by simp
        simp [-mxK_min, e1, idx_nvs hm, idx_nvs hl, hs1, hs2, hap, idx_nss hrow, hL, idx_nvs hm2, idx_nvs hl2, hlo', hix, hdr, hval, hsr, htk, hma, hag, han, ansC, hgn, hne]
    · rw [if_neg hgn] at hL
      by_cases hlo : lw s2 i < mt s2 i
      · have hlo' : (lw s2 i : Int) < mt s2 i := by omega
        rw [closeS_same hlo]
        simp [-mxK_min, e1, idx_nvs hm, idx_nvs hl, hs1, hs2, hap, idx_nss hrow, hL, idx_nvs hm2, idx_nvs hl2, hlo', ansC, hgn]
      · have hlo' : ¬ (lw s2 i : Int) < mt s2 i := by omega
        rw [closeS_pop hlo]
        have hne : ¬ s2.grp ++ [top i s2] = [] := by simp
        simp [-mxK_min, e1, idx_nvs hm, idx_nvs hl, hs1, hs2, hap, idx_nss hrow, hL, idx_nvs hm2, idx_nvs hl2, hlo', hix, hdr, hval, hsr, htk, hmb, hag, han, ansC, hgn, hne]

theorem vis_d (V : VisOk N (visF N f)) (hB : Bnd N) {i : Nat} {s s' : St} (hi : i < N.length) (hw : WF N s) (h0 : mt s i = 0) (h : visF N (f + 1) i s = some s') : s.grp ≠ [] → ev (q25d (iv i) (iv s.n) (nss N) (nvs s.met) (nvs s.low) (ovs s.of) (nvs s.stk) (nss s.grp)) = some (ansD N s s') := fun hg => by
  rw [visF] at h
  split at h
  · cases h
  rename_i s2 h1
  cases h
  have hw1 := hw.push hi h0
  have hk1 := Keep.push hw hi h0
  obtain ⟨hw2, hk2⟩ := edges_keep V.keep _ _ _ (hB.rng.at i) hw1 h1
  have hrow := nrow_at hi
  have hL := L31 V (hB.row _ (List.mem_of_getElem? hrow)) hi _ 0 (pushS i s) s2 rfl (hB.rng.at i) hw1 hg h1
  obtain ⟨M, hM⟩ : ∃ M, M = s.n + 1 := ⟨_, rfl⟩
  obtain ⟨b1, b2, b3⟩ := stk_le hB hw
  have e1 : IntKind.i64.wrap ((s.n : Int) + 1) = (M : Int) := by rw [hM]; exact wr (by omega)
  have hm : s.met[i]? = some 0 := at_of h0 (by rw [hw.m]; exact hi)
  have hl : s.low[i]? = some (lw s i) := at_of rfl (by rw [hw.l]; exact hi)
  have hs1 := fun kp => set_nvs (d := Res.fail) (kp := kp) (l := s.met) (x := M) (i := i) (by rw [hw.m]; exact hi)
  have hs2 := fun kp => set_nvs (d := Res.fail) (kp := kp) (l := s.low) (x := M) (i := i) (by rw [hw.l]; exact hi)
  have hap := fun kp => app_nvs (d := Res.fail) (kp := kp) (l := s.stk) (x := i) (by omega)
  simp only [Int.natCast_zero, Int.ofNat_zero] at hL
  have hpm : (pushS i s).met = s.met.set i M := by rw [hM]; rfl
  have hpl : (pushS i s).low = s.low.set i M := by rw [hM]; rfl
  have hpo : (pushS i s).of = s.of := rfl
  have hpg : (pushS i s).grp = s.grp := rfl
  have hpn : (pushS i s).n = M := hM.symm
  have hps : (pushS i s).stk = s.stk ++ [i] := rfl
  rw [hpm, hpl, hpo, hpg, hpn, hps] at hL
  generalize N.getD i [] = row at hrow hL
  have hm2 : s2.met[i]? = some (mt s2 i) := at_of rfl (by rw [hw2.m]; exact hi)
  have hl2 : s2.low[i]? = some (lw s2 i) := at_of rfl (by rw [hw2.l]; exact hi)
  have hin : i ∈ s2.stk := hk2.ks.subset (by simp [pushS])
  obtain ⟨c1', c2', c3'⟩ := stk_le hB hw2
  have hix := index_ev (l := s2.stk) (by omega) hin
  have hlt := List.idxOf_lt_length_iff.2 hin
  have hdr := fun k => drop_nvs (d := Res.fail) (k := k) (l := s2.stk) (i := s2.stk.idxOf i) (Nat.le_of_lt hlt)
  have htk := fun k => take_nvs (d := Res.fail) (k := k) (l := s2.stk) (i := s2.stk.idxOf i) (Nat.le_of_lt hlt)
  have hval := values_ev (iv (s2.stk.idxOf i : Nat)) (nvs (s2.stk.drop (s2.stk.idxOf i))) (nvs s2.stk)
  have hsr := sorted_ev (l := s2.stk) (a := s2.stk.idxOf i) (by omega) (Nat.le_of_lt hlt)
  have htl : (top i s2).length ≤ 1000000000 := by rw [top_len, List.length_drop]; omega
  have hma := mark_a N (top i s2) htl (nvs s2.met) (nvs s2.low) (nvs (s2.stk.take (s2.stk.idxOf i))) N.length (top i s2) 0 s2.of hw2.o (top_lt hw2 i) rfl
  have hmb := mark_b N (top i s2) htl (nvs s2.met) (nvs s2.low) (nvs (s2.stk.take (s2.stk.idxOf i))) s2.grp N.length (top i s2) 0 s2.of hw2.o (top_lt hw2 i) rfl
  have hag := fun kp => app_nss (d := Res.fail) (kp := kp) (l := s2.grp) (x := top i s2) (by omega)
  have han := fun kp => apn_nss (d := Res.fail) (kp := kp) (x := top i s2)
  rw [show sortN (s2.stk.drop (s2.stk.idxOf i)) = top i s2 from rfl] at hsr
  simp only [Int.natCast_zero, Int.ofNat_zero] at hma hmb
  refine Evl.of ?_
  rw [h25d, g25d]
  by_cases hn : s2.n = M
  · obtain ⟨hgn, hsn⟩ := hk2.k0 (by rw [hpn]; exact hn)
    rw [hpg] at hgn
    rw [hps] at hsn
    rw [ans31, if_pos (by rw [hpn]; exact hn), hgn] at hL
    rw [hgn] at hmb hag
    simp only [← hsn] at hL hap
    by_cases hlo : lw s2 i < mt s2 i
    · have hlo' : (lw s2 i : Int) < mt s2 i := by omega
      rw [closeS_same hlo]
      simp [-mxK_min, e1, idx_nvs hm, idx_nvs hl, hs1, hs2, hap, idx_nss hrow, hL, idx_nvs hm2, idx_nvs hl2, hlo', ansD, hgn]
    · have hlo' : ¬ (lw s2 i : Int) < mt s2 i := by omega
      rw [closeS_pop hlo]
      have hne : ¬ s2.grp ++ [top i s2] = s.grp := fun e => by
        have h5 := congrArg List.length e
        have h6 : s.grp.length ≤ s2.grp.length := (List.IsPrefix.length_le (hk1.trans hk2).kg)
        simp at h5
        omega
      simp [-mxK_min, e1, idx_nvs hm, idx_nvs hl, hs1, hs2, hap, idx_nss hrow, hL, idx_nvs hm2, idx_nvs hl2, hlo', hix, hdr, hval, hsr, htk, hmb, hag, han, ansD, hgn, hne]
  · rw [ans31, if_neg (by rw [hpn]; exact hn)] at hL
    by_cases hgn : s2.grp = s.grp
    · rw [hpg, if_pos hgn, hgn] at hL
      rw [hgn] at hmb hag
      by_cases hlo : lw s2 i < mt s2 i
      · have hlo' : (lw s2 i : Int) < mt s2 i := by omega
        rw [closeS_same hlo]
        simp [-mxK_min, e1, idx_nvs hm, idx_nvs hl, hs1, hs2, hap, idx_nss hrow, hL, idx_nvs hm2, idx_nvs hl2, hlo', ansD, hgn]
      · have hlo' : ¬ (lw s2 i : Int) < mt s2 i := by omega
        rw [closeS_pop hlo]
        have hne : ¬ s2.grp ++ [top i s2] = s.grp := fun e => by
          have h5 := congrArg List.length e
          have h6 : s.grp.length ≤ s2.grp.length := (List.IsPrefix.length_le (hk1.trans hk2).kg)
          simp at h5
          omega
        simp [-mxK_min, e1, idx_nvs hm, idx_nvs hl, hs1, hs2, hap, idx_nss hrow, hL, idx_nvs hm2, idx_nvs hl2, hlo', hix, hdr, hval, hsr, htk, hmb, hag, han, ansD, hgn, hne]
    · rw [hpg, if_neg hgn] at hL
      by_cases hlo : lw s2 i < mt s2 i
      · have hlo' : (lw s2 i : Int) < mt s2 i := by omega
        rw [closeS_same hlo]
        simp [-mxK_min, e1, idx_nvs hm, idx_nvs hl, hs1, hs2, hap, idx_nss hrow, hL, idx_nvs hm2, idx_nvs hl2, hlo', ansD, hgn]
      · have hlo' : ¬ (lw s2 i : Int) < mt s2 i := by omega
        rw [closeS_pop hlo]
        have hne : ¬ s2.grp ++ [top i s2] = s.grp := fun e => by
          have h5 := congrArg List.length e
          have h6 : s.grp.length ≤ s2.grp.length := (List.IsPrefix.length_le (hk1.trans hk2).kg)
          simp at h5
          omega
        simp [-mxK_min, e1, idx_nvs hm, idx_nvs hl, hs1, hs2, hap, idx_nss hrow, hL, idx_nvs hm2, idx_nvs hl2, hlo', hix, hdr, hval, hsr, htk, hmb, hag, han, ansD, hgn, hne]

theorem vis_ok (hB : Bnd N) : ∀ f, VisOk N (visF N f)
  | 0 => ⟨fun k s s' _ _ _ h => (by cases h), fun k s s' _ _ _ h _ => (by cases h), fun k s s' _ _ _ h _ => (by cases h)⟩
  | f + 1 => ⟨fun k s s' hk hw h0 h => vis_keep hB.rng (f + 1) k s s' hk hw h0 h, fun k s s' hk hw h0 h => vis_c (vis_ok hB f) hB hk hw h0 h, fun k s s' hk hw h0 h => vis_d (vis_ok hB f) hB hk hw h0 h⟩
theorem vis_a' (hB : Bnd N) {i : Nat} {s s' : St} (hi : i < N.length) (hw : WF N s) (h0 : mt s i = 0) : ∀ {f : Nat}, visF N f i s = some s' → s.grp = [] → s.stk = [] → ev (q25a (iv i) (iv s.n) (nss N) (nvs s.met) (nvs s.low) (ovs s.of)) = some (ansC N s')
  | 0, h => by cases h
  | f + 1, h => vis_a (vis_ok hB f) hB hi hw h0 h
end

@[simp] theorem lenK_nil22 {k : AV → Res} : lenK PG .fail 22 (.pv (.lit (.slice none 0 0))) k = k (.pv (iv 0)) := lenK_of (fun r => by
  have h : ∀ ty, builtinA PG .len #[22] ty [.pv nS] = some (.pv (.lit (.int .i64 0))) := fun ty => by kernel_rfl
  constructor
  · intro hr
    have h1 := hr 0
    rw [h 0] at h1
    exact (Option.some.inj h1).symm
  · rintro rfl; exact h) (nsa_lit _)
def rbRows (N : List (List Nat)) : List (List Bool) := (List.range N.length).map fun i => (List.range N.length).map fun k => RB N i k
theorem rb_at {N : List (List Nat)} {i : Nat} (hi : i < N.length) : (rbRows N)[i]? = some ((List.range N.length).map fun k => RB N i k) := by
  unfold rbRows
  rw [List.getElem?_map, List.getElem?_range hi]; rfl
theorem rb_at2 {N : List (List Nat)} {i k : Nat} (hk : k < N.length) : ((List.range N.length).map fun k => RB N i k)[k]? = some (RB N i k) := by
  rw [List.getElem?_map, List.getElem?_range hk]; rfl
theorem come_at {c : List Bool} {k : Nat} (hk : k < c.length) : c[k]? = some (c.getD k false) := by
  rw [List.getD_eq_getElem?_getD, List.getElem?_eq_getElem hk]; rfl
theorem tog_ev {N : List (List Nat)} {i k : Nat} (hi : i < N.length) (hk : k < N.length) : ev (q19 (bsr (rbRows N)) (iv i) (iv k)) = some (0, [bv (tog N i k)]) := Evl.of (by
  rw [h19, g19]
  by_cases he : i = k
  · subst he; simp [tog]
  · have he' : ¬ (i : Int) = k := by omega
    have hb : (i == k) = false := by simpa using he
    cases h1 : RB N i k with
    | false =>
      have h1' := rb_at2 (N := N) (i := i) hk
      rw [h1] at h1'
      simp [he', idx_bsr (rb_at hi), idx_bvr h1', tog, hb, h1]
    | true =>
      have h1' := rb_at2 (N := N) (i := i) hk
      rw [h1] at h1'
      have h2' := rb_at2 (N := N) (i := k) hi
      cases h2 : RB N k i with
      | false =>
        rw [h2] at h2'
        simp [he', idx_bsr (rb_at hi), idx_bvr h1', idx_bsr (rb_at hk), idx_bvr h2', tog, hb, h1, h2]
      | true =>
        rw [h2] at h2'
        simp [he', idx_bsr (rb_at hi), idx_bvr h1', idx_bsr (rb_at hk), idx_bvr h2', tog, hb, h1, h2])
/-- Is this one no hindrance? -/
def okK (N : List (List Nat)) (c : List Bool) (i k : Nat) : Bool := !RB N i k || c.getD k false || tog N i k
def fromR (N : List (List Nat)) (k : Nat) : List Nat := (List.range N.length).drop k
theorem from_out {N : List (List Nat)} {k : Nat} (h : N.length ≤ k) : fromR N k = [] := by unfold fromR; exact List.drop_eq_nil_of_le (by simpa using h)
theorem from_in {N : List (List Nat)} {k : Nat} (h : k < N.length) : fromR N k = k :: fromR N (k + 1) := by
  unfold fromR
  rw [List.drop_eq_getElem_cons (by simpa using h)]; simp
section
variable {N : List (List Nat)}

theorem stop_n {i : Nat} (x y : PV) (k : Nat) (c : List Bool) : ev (q10b8a (iv (k : Int)) (nss N) (bsr (rbRows N)) (iv i) x y (bvr c)) = some (0, [bvr c, bf, iv i, nss N, bsr (rbRows N), nS, x, y]) := Evl.of (by
  rw [h10b8a, g10b8a]
  by_cases h : (k : Int) < N.length
  · simp [h]
  · simp [h])
theorem all_n (hb : N.length ≤ 100000) {i : Nat} (hi : i < N.length) (x y : PV) (c : List Bool) (hc : c.length = N.length) : ∀ (m k : Nat), N.length - k = m →
    ev (q10b8b (iv (k : Int)) (nss N) (bsr (rbRows N)) (iv i) x y (bvr c)) = some (0, [bvr c, bv ((fromR N k).all (okK N c i)), iv i, nss N, bsr (rbRows N), nS, x, y])
  | 0, k, hm => by
    have hk : ¬ (k : Int) < N.length := by omega
    refine Evl.of ?_
    rw [h10b8b, g10b8b, from_out (by omega)]
    simp [hk]
  | m + 1, k, hm => by
    have hkn : k < N.length := by omega
    have hk : (k : Int) < N.length := by omega
    have ih := all_n hb hi x y c hc m (k + 1) (by omega)
    have st := stop_n (N := N) (i := i) x y (k + 1) c
    have e0 := wr (n := k) (by omega)
    rw [c1] at ih st e0
    have h1' := rb_at2 (N := N) (i := i) hkn
    have hck := come_at (c := c) (k := k) (by omega)
    have htg := tog_ev hi hkn
    refine Evl.of ?_
    rw [h10b8b, g10b8b, from_in hkn]
    cases h1 : RB N i k with
    | false =>
      rw [h1] at h1'
      simp [hk, idx_bsr (rb_at hi), idx_bvr h1', e0, ih, okK, h1]
    | true =>
      rw [h1] at h1'
      cases h2 : c.getD k false with
      | true =>
        rw [h2] at hck
        have ho : okK N c i k = true := by unfold okK; rw [h1, h2]; rfl
        simp [hk, idx_bsr (rb_at hi), idx_bvr h1', idx_bvr hck, e0, ih, ho]
      | false =>
        rw [h2] at hck
        cases h3 : tog N i k with
        | true =>
          rw [h3] at htg
          have ho : okK N c i k = true := by unfold okK; rw [h1, h2, h3]; rfl
          simp [hk, idx_bsr (rb_at hi), idx_bvr h1', idx_bvr hck, htg, e0, ih, ho]
        | false =>
          rw [h3] at htg
          have ho : okK N c i k = false := by unfold okK; rw [h1, h2, h3]; rfl
          simp [hk, idx_bsr (rb_at hi), idx_bvr h1', idx_bvr hck, htg, e0, st, ho]

theorem find_n (hb : N.length ≤ 100000) (x : PV) (c : List Bool) (hc : c.length = N.length) : ∀ (m i : Nat), N.length - i = m →
    ev (q10b6a (iv (i : Int)) (nss N) (iv (-1)) (bsr (rbRows N)) x (bvr c)) = some (0, [bvr c, (eO ((fromR N i).find? (okR N c))), nss N, bsr (rbRows N), nS, x])
  | 0, i, hm => by
    have hk : ¬ (i : Int) < N.length := by omega
    refine Evl.of ?_
    rw [h10b6a, g10b6a, from_out (by omega)]
    simp [hk, eO]
  | m + 1, i, hm => by
    have hin : i < N.length := by omega
    have hk : (i : Int) < N.length := by omega
    have ih := find_n hb x c hc m (i + 1) (by omega)
    have fin : ev (q10b6a (iv ((i : Int) + 1)) (nss N) (iv (i : Int)) (bsr (rbRows N)) x (bvr c)) = some (0, [bvr c, (iv (i : Int)), nss N, bsr (rbRows N), nS, x]) := Evl.of (by
      have hneg : ¬ (i : Int) < 0 := by omega
      rw [h10b6a, g10b6a]
      by_cases h : (i : Int) + 1 < N.length
      · simp [h, hneg]
      · simp [h, hneg])
    have e0 := wr (n := i) (by omega)
    rw [c1] at ih e0
    have hci := come_at (c := c) (k := i) (by omega)
    have st := stop_n (N := N) (i := i) x (iv (-1)) 0 c
    have al := all_n hb hin x (iv (-1)) c hc N.length 0 (by omega)
    have hfr : fromR N 0 = List.range N.length := rfl
    rw [hfr] at al
    simp only [Int.natCast_zero, Int.ofNat_zero] at al st
    have hok : okR N c i = (!c.getD i false && (List.range N.length).all (okK N c i)) := rfl
    refine Evl.of ?_
    rw [h10b6a, g10b6a, from_in hin, List.find?_cons, hok]
    cases h1 : c.getD i false with
    | true =>
      rw [h1] at hci
      simp [hk, idx_bvr hci, st, e0, ih]
    | false =>
      rw [h1] at hci
      cases h2 : (List.range N.length).all (okK N c i) with
      | true =>
        rw [h2] at al
        simp [hk, idx_bvr hci, al, e0, fin, eO]
      | false =>
        rw [h2] at al
        simp [hk, idx_bvr hci, al, e0, ih]

theorem colc_n (hb : N.length ≤ 100000) {a : Nat} (ha : a < N.length) (x : PV) : ∀ (m k : Nat) (g : List Nat) (c : List Bool), N.length - k = m → g.length ≤ k → c.length = N.length →
    ev (q10b10c (iv (k : Int)) (nss N) (bsr (rbRows N)) (iv a) (g.map fun (q : Nat) => [eN q]) x (bvr c)) = some (1, [bvr (markR c ((fromR N k).filter (tog N a))), nS, nvs (g ++ (fromR N k).filter (tog N a)), x, nss N, bsr (rbRows N)])
  | 0, k, g, c, hm, hg, hc => by
    have hk : ¬ (k : Int) < N.length := by omega
    refine Evl.of ?_
    rw [h10b10c, g10b10c, from_out (by omega)]
    simp [hk, markR]
    rfl
  | m + 1, k, g, c, hm, hg, hc => by
    have hkn : k < N.length := by omega
    have hk : (k : Int) < N.length := by omega
    have e0 := wr (n := k) (by omega)
    rw [c1] at e0
    have htg := tog_ev ha hkn
    have hck := come_at (c := c) (k := k) (by omega)
    have hset := fun kp => set_bvr (d := Res.fail) (kp := kp) (l := c) (x := true) (i := k) (by omega)
    have hap := fun kp => app_nvs (d := Res.fail) (kp := kp) (l := g) (x := k) (by omega)
    refine Evl.of ?_
    rw [h10b10c, g10b10c, from_in hkn, List.filter_cons]
    cases h1 : tog N a k with
    | true =>
      rw [h1] at htg
      have ih := colc_n hb ha x m (k + 1) (g ++ [k]) (c.set k true) (by omega) (by simp; omega) (by simp [hc])
      rw [c1] at ih
      have hgr : ∀ l : List Nat, PV.rows (l.map fun (q : Nat) => [eN q]) = nvs l := fun l => rfl
      have ih2 : Evl PG EE TT ⟨(q10b10c i0 i0 i0 i0 [] i0 i0).k, [iv ((k : Int) + 1), nss N, bsr (rbRows N), iv a, nvs (g ++ [k]), x, bvr (c.set k true)]⟩ = _ := ih
      have hm2 : markR (c.set k true) ((fromR N (k + 1)).filter (tog N a)) = markR c (k :: (fromR N (k + 1)).filter (tog N a)) := rfl
      cases h2 : c.getD k false with
      | true =>
        rw [h2] at hck
        simp [-List.map_append, hk, htg, hgr, hap, idx_bvr hck, hset, e0, ih2, hm2]
      | false =>
        rw [h2] at hck
        simp [-List.map_append, hk, htg, hgr, hap, idx_bvr hck, hset, e0, ih2, hm2]
    | false =>
      rw [h1] at htg
      have ih := colc_n hb ha x m (k + 1) g c (by omega) (by omega) hc
      rw [c1] at ih
      simp [hk, htg, e0, ih]
theorem col_n (hb : N.length ≤ 100000) {a : Nat} (ha : a < N.length) (x : PV) (c : List Bool) (hc : c.length = N.length) : ∀ (m k : Nat), N.length - k = m → (fromR N k).filter (tog N a) ≠ [] →
    ev (q10b10a (iv (k : Int)) (nss N) (bsr (rbRows N)) (iv a) x (bvr c)) = some (1, [bvr (markR c ((fromR N k).filter (tog N a))), nS, nvs ((fromR N k).filter (tog N a)), x, nss N, bsr (rbRows N)])
  | 0, k, hm, hne => by
    rw [from_out (by omega)] at hne
    exact absurd rfl hne
  | m + 1, k, hm, hne => by
    have hkn : k < N.length := by omega
    have hk : (k : Int) < N.length := by omega
    have e0 := wr (n := k) (by omega)
    rw [c1] at e0
    have htg := tog_ev ha hkn
    have hck := come_at (c := c) (k := k) (by omega)
    have hset := fun kp => set_bvr (d := Res.fail) (kp := kp) (l := c) (x := true) (i := k) (by omega)
    rw [from_in hkn, List.filter_cons] at hne ⊢
    refine Evl.of ?_
    rw [h10b10a, g10b10a]
    cases h1 : tog N a k with
    | true =>
      rw [h1] at htg
      have ih := colc_n hb ha x m (k + 1) [k] (c.set k true) (by omega) (by simp) (by simp [hc])
      rw [c1] at ih
      have ih2 : Evl PG EE TT ⟨(q10b10c i0 i0 i0 i0 [] i0 i0).k, [iv ((k : Int) + 1), nss N, bsr (rbRows N), iv a, .rows [[iv (k : Int)]], x, bvr (c.set k true)]⟩ = _ := ih
      have hm2 : markR (c.set k true) ((fromR N (k + 1)).filter (tog N a)) = markR c (k :: (fromR N (k + 1)).filter (tog N a)) := rfl
      cases h2 : c.getD k false with
      | true =>
        rw [h2] at hck
        simp [hk, htg, idx_bvr hck, hset, e0, ih2, hm2]
      | false =>
        rw [h2] at hck
        simp [hk, htg, idx_bvr hck, hset, e0, ih2, hm2]
    | false =>
      rw [h1] at htg hne
      have ih := col_n hb ha x c hc m (k + 1) (by omega) hne
      rw [c1] at ih
      simp [hk, htg, e0, ih]

theorem stop_r {i : Nat} (o : List (List PV)) (x y : PV) (k : Nat) (c : List Bool) : ev (q10b8c (iv (k : Int)) (nss N) (bsr (rbRows N)) (iv i) o x y (bvr c)) = some (0, [bvr c, bf, iv i, nss N, bsr (rbRows N), (.rows o), x, y]) := Evl.of (by
  rw [h10b8c, g10b8c]
  by_cases h : (k : Int) < N.length
  · simp [h]
  · simp [h])
theorem all_r (hb : N.length ≤ 100000) {i : Nat} (hi : i < N.length) (o : List (List PV)) (x y : PV) (c : List Bool) (hc : c.length = N.length) : ∀ (m k : Nat), N.length - k = m →
    ev (q10b8d (iv (k : Int)) (nss N) (bsr (rbRows N)) (iv i) o x y (bvr c)) = some (0, [bvr c, bv ((fromR N k).all (okK N c i)), iv i, nss N, bsr (rbRows N), (.rows o), x, y])
  | 0, k, hm => by
    have hk : ¬ (k : Int) < N.length := by omega
    refine Evl.of ?_
    rw [h10b8d, g10b8d, from_out (by omega)]
    simp [hk]
  | m + 1, k, hm => by
    have hkn : k < N.length := by omega
    have hk : (k : Int) < N.length := by omega
    have ih := all_r hb hi o x y c hc m (k + 1) (by omega)
    have st := stop_r (N := N) (i := i) o x y (k + 1) c
    have e0 := wr (n := k) (by omega)
    rw [c1] at ih st e0
    have h1' := rb_at2 (N := N) (i := i) hkn
    have hck := come_at (c := c) (k := k) (by omega)
    have htg := tog_ev hi hkn
    refine Evl.of ?_
    rw [h10b8d, g10b8d, from_in hkn]
    cases h1 : RB N i k with
    | false =>
      rw [h1] at h1'
      simp [hk, idx_bsr (rb_at hi), idx_bvr h1', e0, ih, okK, h1]
    | true =>
      rw [h1] at h1'
      cases h2 : c.getD k false with
      | true =>
        rw [h2] at hck
        have ho : okK N c i k = true := by unfold okK; rw [h1, h2]; rfl
        simp [hk, idx_bsr (rb_at hi), idx_bvr h1', idx_bvr hck, e0, ih, ho]
      | false =>
        rw [h2] at hck
        cases h3 : tog N i k with
        | true =>
          rw [h3] at htg
          have ho : okK N c i k = true := by unfold okK; rw [h1, h2, h3]; rfl
          simp [hk, idx_bsr (rb_at hi), idx_bvr h1', idx_bvr hck, htg, e0, ih, ho]
        | false =>
          rw [h3] at htg
          have ho : okK N c i k = false := by unfold okK; rw [h1, h2, h3]; rfl
          simp [hk, idx_bsr (rb_at hi), idx_bvr h1', idx_bvr hck, htg, e0, st, ho]

theorem find_r (hb : N.length ≤ 100000) (o : List (List PV)) (x : PV) (c : List Bool) (hc : c.length = N.length) : ∀ (m i : Nat), N.length - i = m →
    ev (q10b6b (iv (i : Int)) (nss N) (iv (-1)) (bsr (rbRows N)) o x (bvr c)) = some (0, [bvr c, (eO ((fromR N i).find? (okR N c))), nss N, bsr (rbRows N), (.rows o), x])
  | 0, i, hm => by
    have hk : ¬ (i : Int) < N.length := by omega
    refine Evl.of ?_
    rw [h10b6b, g10b6b, from_out (by omega)]
    simp [hk, eO]
  | m + 1, i, hm => by
    have hin : i < N.length := by omega
    have hk : (i : Int) < N.length := by omega
    have ih := find_r hb o x c hc m (i + 1) (by omega)
    have fin : ev (q10b6b (iv ((i : Int) + 1)) (nss N) (iv (i : Int)) (bsr (rbRows N)) o x (bvr c)) = some (0, [bvr c, (iv (i : Int)), nss N, bsr (rbRows N), (.rows o), x]) := Evl.of (by
      have hneg : ¬ (i : Int) < 0 := by omega
      rw [h10b6b, g10b6b]
      by_cases h : (i : Int) + 1 < N.length
      · simp [h, hneg]
      · simp [h, hneg])
    have e0 := wr (n := i) (by omega)
    rw [c1] at ih e0
    have hci := come_at (c := c) (k := i) (by omega)
    have st := stop_r (N := N) (i := i) o x (iv (-1)) 0 c
    have al := all_r hb hin o x (iv (-1)) c hc N.length 0 (by omega)
    have hfr : fromR N 0 = List.range N.length := rfl
    rw [hfr] at al
    simp only [Int.natCast_zero, Int.ofNat_zero] at al st
    have hok : okR N c i = (!c.getD i false && (List.range N.length).all (okK N c i)) := rfl
    refine Evl.of ?_
    rw [h10b6b, g10b6b, from_in hin, List.find?_cons, hok]
    cases h1 : c.getD i false with
    | true =>
      rw [h1] at hci
      simp [hk, idx_bvr hci, st, e0, ih]
    | false =>
      rw [h1] at hci
      cases h2 : (List.range N.length).all (okK N c i) with
      | true =>
        rw [h2] at al
        simp [hk, idx_bvr hci, al, e0, fin, eO]
      | false =>
        rw [h2] at al
        simp [hk, idx_bvr hci, al, e0, ih]

theorem colc_r (hb : N.length ≤ 100000) {a : Nat} (ha : a < N.length) (o : List (List PV)) (x : PV) : ∀ (m k : Nat) (g : List Nat) (c : List Bool), N.length - k = m → g.length ≤ k → c.length = N.length →
    ev (q10b10d (iv (k : Int)) (nss N) (bsr (rbRows N)) (iv a) (g.map fun (q : Nat) => [eN q]) o x (bvr c)) = some (1, [bvr (markR c ((fromR N k).filter (tog N a))), (.rows o), nvs (g ++ (fromR N k).filter (tog N a)), x, nss N, bsr (rbRows N)])
  | 0, k, g, c, hm, hg, hc => by
    have hk : ¬ (k : Int) < N.length := by omega
    refine Evl.of ?_
    rw [h10b10d, g10b10d, from_out (by omega)]
    simp [hk, markR]
    rfl
  | m + 1, k, g, c, hm, hg, hc => by
    have hkn : k < N.length := by omega
    have hk : (k : Int) < N.length := by omega
    have e0 := wr (n := k) (by omega)
    rw [c1] at e0
    have htg := tog_ev ha hkn
    have hck := come_at (c := c) (k := k) (by omega)
    have hset := fun kp => set_bvr (d := Res.fail) (kp := kp) (l := c) (x := true) (i := k) (by omega)
    have hap := fun kp => app_nvs (d := Res.fail) (kp := kp) (l := g) (x := k) (by omega)
    refine Evl.of ?_
    rw [h10b10d, g10b10d, from_in hkn, List.filter_cons]
    cases h1 : tog N a k with
    | true =>
      rw [h1] at htg
      have ih := colc_r hb ha o x m (k + 1) (g ++ [k]) (c.set k true) (by omega) (by simp; omega) (by simp [hc])
      rw [c1] at ih
      have hgr : ∀ l : List Nat, PV.rows (l.map fun (q : Nat) => [eN q]) = nvs l := fun l => rfl
      have ih2 : Evl PG EE TT ⟨(q10b10d i0 i0 i0 i0 [] o i0 i0).k, [iv ((k : Int) + 1), nss N, bsr (rbRows N), iv a, nvs (g ++ [k]), .rows o, x, bvr (c.set k true)]⟩ = _ := ih
      have hm2 : markR (c.set k true) ((fromR N (k + 1)).filter (tog N a)) = markR c (k :: (fromR N (k + 1)).filter (tog N a)) := rfl
      cases h2 : c.getD k false with
      | true =>
        rw [h2] at hck
        simp [-List.map_append, hk, htg, hgr, hap, idx_bvr hck, hset, e0, ih2, hm2]
      | false =>
        rw [h2] at hck
        simp [-List.map_append, hk, htg, hgr, hap, idx_bvr hck, hset, e0, ih2, hm2]
    | false =>
      rw [h1] at htg
      have ih := colc_r hb ha o x m (k + 1) g c (by omega) (by omega) hc
      rw [c1] at ih
      simp [hk, htg, e0, ih]
theorem col_r (hb : N.length ≤ 100000) {a : Nat} (ha : a < N.length) (o : List (List PV)) (x : PV) (c : List Bool) (hc : c.length = N.length) : ∀ (m k : Nat), N.length - k = m → (fromR N k).filter (tog N a) ≠ [] →
    ev (q10b10b (iv (k : Int)) (nss N) (bsr (rbRows N)) (iv a) o x (bvr c)) = some (1, [bvr (markR c ((fromR N k).filter (tog N a))), (.rows o), nvs ((fromR N k).filter (tog N a)), x, nss N, bsr (rbRows N)])
  | 0, k, hm, hne => by
    rw [from_out (by omega)] at hne
    exact absurd rfl hne
  | m + 1, k, hm, hne => by
    have hkn : k < N.length := by omega
    have hk : (k : Int) < N.length := by omega
    have e0 := wr (n := k) (by omega)
    rw [c1] at e0
    have htg := tog_ev ha hkn
    have hck := come_at (c := c) (k := k) (by omega)
    have hset := fun kp => set_bvr (d := Res.fail) (kp := kp) (l := c) (x := true) (i := k) (by omega)
    rw [from_in hkn, List.filter_cons] at hne ⊢
    refine Evl.of ?_
    rw [h10b10b, g10b10b]
    cases h1 : tog N a k with
    | true =>
      rw [h1] at htg
      have ih := colc_r hb ha o x m (k + 1) [k] (c.set k true) (by omega) (by simp) (by simp [hc])
      rw [c1] at ih
      have ih2 : Evl PG EE TT ⟨(q10b10d i0 i0 i0 i0 [] o i0 i0).k, [iv ((k : Int) + 1), nss N, bsr (rbRows N), iv a, .rows [[iv (k : Int)]], .rows o, x, bvr (c.set k true)]⟩ = _ := ih
      have hm2 : markR (c.set k true) ((fromR N (k + 1)).filter (tog N a)) = markR c (k :: (fromR N (k + 1)).filter (tog N a)) := rfl
      cases h2 : c.getD k false with
      | true =>
        rw [h2] at hck
        simp [hk, htg, idx_bvr hck, hset, e0, ih2, hm2]
      | false =>
        rw [h2] at hck
        simp [hk, htg, idx_bvr hck, hset, e0, ih2, hm2]
    | false =>
      rw [h1] at htg hne
      have ih := col_r hb ha o x c hc m (k + 1) (by omega) hne
      rw [c1] at ih
      simp [hk, htg, e0, ih]

end

theorem tog_self (N : List (List Nat)) (a : Nat) : tog N a a = true := by unfold tog; simp
theorem pickR_lt {N : List (List Nat)} {c : List Bool} {a : Nat} (h : pickR N c = some a) : a < N.length := by
  unfold pickR at h
  rw [List.find?_range_eq_some] at h
  exact List.mem_range.1 h.2.1
theorem grpR_ne {N : List (List Nat)} {a : Nat} (ha : a < N.length) : grpR N a ≠ [] := fun e => by
  have : a ∈ grpR N a := grpR_mem.2 ⟨ha, tog_self N a⟩
  rw [e] at this; cases this
abbrev rw1 (o : List (List Nat)) : List (List PV) := o.map fun x => [nvs x]
theorem ref_r {N : List (List Nat)} (hb : N.length ≤ 100000) : ∀ (t i : Nat) (c : List Bool) (o : List (List Nat)), i + t = N.length → c.length = N.length → o.length ≤ i →
    ∃ c', ev (q10b4b (iv (i : Int)) (nss N) (bsr (rbRows N)) (rw1 o) (bvr c)) = some (1, [bvr c', nss (refF N t c o)])
  | 0, i, c, o, hi, hc, ho => by
    have hk : ¬ (i : Int) < N.length := by omega
    refine ⟨c, Evl.of ?_⟩
    rw [h10b4b, g10b4b]
    simp [hk, refF]
    rfl
  | t + 1, i, c, o, hi, hc, ho => by
    have hk : (i : Int) < N.length := by omega
    have e0 := wr (n := i) (by omega)
    rw [c1] at e0
    have hf := find_r hb (rw1 o) (iv (i : Int)) c hc N.length 0 (by omega)
    rw [show (fromR N 0).find? (okR N c) = pickR N c from rfl] at hf
    simp only [Int.natCast_zero, Int.ofNat_zero] at hf
    cases hp : pickR N c with
    | none =>
      rw [hp] at hf
      obtain ⟨c', ih⟩ := ref_r hb t (i + 1) c o (by omega) hc (by omega)
      rw [c1] at ih
      refine ⟨c', Evl.of ?_⟩
      rw [h10b4b, g10b4b, refF, hp]
      simp [hk, hf, eO, e0, ih]
    | some a =>
      rw [hp] at hf
      have ha := pickR_lt hp
      have hcol := col_r hb ha (rw1 o) (iv (i : Int)) c hc N.length 0 (by omega) (grpR_ne ha)
      rw [show (fromR N 0).filter (tog N a) = grpR N a from rfl] at hcol
      simp only [Int.natCast_zero, Int.ofNat_zero] at hcol
      obtain ⟨c', ih⟩ := ref_r hb t (i + 1) (markR c (grpR N a)) (o ++ [grpR N a]) (by omega) (by rw [markR_len]; exact hc) (by simp; omega)
      rw [c1] at ih
      have ih2 : Evl PG EE TT ⟨(q10b4b i0 i0 i0 [] i0).k, [iv ((i : Int) + 1), nss N, bsr (rbRows N), nss (o ++ [grpR N a]), bvr (markR c (grpR N a))]⟩ = _ := ih
      have hap := fun kp => app_nss (d := Res.fail) (kp := kp) (l := o) (x := grpR N a) (by omega)
      have hor : PV.rows (rw1 o) = nss o := rfl
      have hneg : ¬ (a : Int) < 0 := by omega
      refine ⟨c', Evl.of ?_⟩
      rw [h10b4b, g10b4b, refF, hp]
      have hf2 : Evl PG EE TT ⟨(q10b6b i0 i0 i0 i0 [] i0 i0).k, [i0, nss N, iv (-1), bsr (rbRows N), nss o, iv (i : Int), bvr c]⟩ = _ := hf
      have hcol2 : Evl PG EE TT ⟨(q10b10b i0 i0 i0 i0 [] i0 i0).k, [i0, nss N, bsr (rbRows N), iv (a : Int), nss o, iv (i : Int), bvr c]⟩ = _ := hcol
      rw [hor] at hf2 hcol2
      simp [-List.map_append, hk, hf2, eO, hcol2, e0, ih2, hor, hap]
theorem ref_n {N : List (List Nat)} (hb : N.length ≤ 100000) : ∀ (t i : Nat) (c : List Bool), i + t = N.length → c.length = N.length →
    ∃ c', ev (q10b4a (iv (i : Int)) (nss N) (bsr (rbRows N)) (bvr c)) = some (if refF N t c [] = [] then (0, [bvr c', nS]) else (1, [bvr c', nss (refF N t c [])]))
  | 0, i, c, hi, hc => by
    have hk : ¬ (i : Int) < N.length := by omega
    refine ⟨c, Evl.of ?_⟩
    rw [h10b4a, g10b4a]
    simp [hk, refF]
  | t + 1, i, c, hi, hc => by
    have hk : (i : Int) < N.length := by omega
    have e0 := wr (n := i) (by omega)
    rw [c1] at e0
    have hf := find_n hb (iv (i : Int)) c hc N.length 0 (by omega)
    rw [show (fromR N 0).find? (okR N c) = pickR N c from rfl] at hf
    simp only [Int.natCast_zero, Int.ofNat_zero] at hf
    cases hp : pickR N c with
    | none =>
      rw [hp] at hf
      obtain ⟨c', ih⟩ := ref_n hb t (i + 1) c (by omega) hc
      rw [c1] at ih
      refine ⟨c', Evl.of ?_⟩
      rw [h10b4a, g10b4a, refF, hp]
      simp [hk, hf, eO, e0, ih]
    | some a =>
      rw [hp] at hf
      have ha := pickR_lt hp
      have hcol := col_n hb ha (iv (i : Int)) c hc N.length 0 (by omega) (grpR_ne ha)
      rw [show (fromR N 0).filter (tog N a) = grpR N a from rfl] at hcol
      simp only [Int.natCast_zero, Int.ofNat_zero] at hcol
      obtain ⟨c', ih⟩ := ref_r hb t (i + 1) (markR c (grpR N a)) [grpR N a] (by omega) (by rw [markR_len]; exact hc) (by simp)
      rw [c1] at ih
      have ih2 : Evl PG EE TT ⟨(q10b4b i0 i0 i0 [] i0).k, [iv ((i : Int) + 1), nss N, bsr (rbRows N), .rows [[nvs (grpR N a)]], bvr (markR c (grpR N a))]⟩ = _ := ih
      have hneg : ¬ (a : Int) < 0 := by omega
      have hgrow : ∀ (t : Nat) (c : List Bool) (o : List (List Nat)), o ≠ [] → refF N t c o ≠ [] := by
        intro t
        induction t with
        | zero => intro c o h; exact h
        | succ t iht =>
          intro c o h
          rw [refF]
          split
          · exact iht _ _ h
          · exact iht _ _ (by simp)
      have hne := hgrow t (markR c (grpR N a)) [grpR N a] (by simp)
      refine ⟨c', Evl.of ?_⟩
      rw [h10b4a, g10b4a, refF, hp]
      simp [hk, hf, eO, hcol, e0, ih2, hne]
/-! 'ready'. -/
section
variable {N : List (List Nat)} {s : St}
theorem need_at (hB : Bnd N) {x : Nat} (hx : x < N.length) : N[x]? = some (nd N x) ∧ (nd N x).length ≤ 1000000000 := ⟨nrow_at hx, hB.row _ (List.mem_of_getElem? (nrow_at hx))⟩
theorem gof_at {N : List (List Nat)} {s : St} (h : Done N s) {x : Nat} (hx : x < N.length) : s.of[x]? = some (some (gi s x)) := by
  rw [← gof_gi h hx]
  exact at_ofO rfl (by rw [h.inv.wf.o]; exact hx)
/-- Is this need no hindrance? -/
def rdK (s : St) (c : List Bool) (i k : Nat) : Bool := decide (gof s k = gof s i) || c.getD (gi s k) false
theorem rd_in (hB : Bnd N) (h : Done N s) {x : Nat} (hx : x < N.length) (c : List Bool) (hc : c.length = s.grp.length) (met low stk : PV) (e f g : PV) : ∀ (m : List Nat) (j : Nat), (nd N x).drop j = m →
    ev (q29bb2a (iv (j : Int)) (iv (nd N x).length) (nvs (nd N x)) (iv x) e f g (nss N) met low (ovs s.of) stk (nss s.grp) (bvr c)) = some (if m.all (rdK s c x) = true then (1, [nss N, met, low, ovs s.of, stk, nss s.grp, bvr c, e, f, g]) else (0, [nss N, met, low, ovs s.of, stk, nss s.grp, bvr c, bf]))
  | [], j, hd => by
    have hj : ¬ (j : Int) < (nd N x).length := by have := congrArg List.length hd; simp at this; simp; omega
    refine Evl.of ?_
    rw [h29bb2a, g29bb2a]
    generalize nd N x = row at *
    simp [hj]
  | k :: m, j, hd => by
    have hkx : (nd N x)[j]? = some k := by have := congrArg List.head? hd; rwa [List.head?_drop] at this
    have hj0 := (List.getElem?_eq_some_iff.1 hkx).1
    have hj : (j : Int) < (nd N x).length := by omega
    have hd' : (nd N x).drop (j + 1) = m := by rw [← List.drop_drop, hd]; rfl
    have hkN : k < N.length := hB.rng.at x k (List.mem_of_getElem? hkx)
    have ih := rd_in hB h hx c hc met low stk e f g m (j + 1) hd'
    have e0 := wr (n := j) (by have := (need_at hB hx).2; omega)
    rw [c1] at ih e0
    have ho1 := gof_at h hkN
    have ho2 := gof_at h hx
    have hck := come_at (c := c) (k := gi s k) (by rw [hc]; exact gi_lt h hkN)
    refine Evl.of ?_
    rw [h29bb2a, g29bb2a]
    by_cases he : gi s k = gi s x
    · have hr : rdK s c x k = true := by unfold rdK; rw [gof_gi h hkN, gof_gi h hx, he]; simp
      generalize nd N x = row at *
      simp [hj, idx_nvs hkx, idx_ovs ho1, idx_ovs ho2, eO, he, e0, ih, hr]
    · have hr : rdK s c x k = c.getD (gi s k) false := by
        unfold rdK
        rw [gof_gi h hkN, gof_gi h hx]
        simp [he]
      have he' : ¬ (gi s k : Int) = gi s x := by omega
      generalize nd N x = row at *
      cases hcc : c.getD (gi s k) false with
      | true =>
        rw [hcc] at hck hr
        simp [hj, idx_nvs hkx, idx_ovs ho1, idx_ovs ho2, eO, he, he', idx_bvr hck, e0, ih, hr]
      | false =>
        rw [hcc] at hck hr
        simp [hj, idx_nvs hkx, idx_ovs ho1, idx_ovs ho2, eO, he, he', idx_bvr hck, e0, ih, hr]
theorem rd_out (hB : Bnd N) (h : Done N s) (c : List Bool) (hc : c.length = s.grp.length) (met low stk : PV) (gr : List Nat) (hg : ∀ x ∈ gr, x < N.length) (hgl : gr.length ≤ 1000000000) : ∀ (m : List Nat) (j : Nat), gr.drop j = m →
    ev (q29bb0a (iv (j : Int)) (iv gr.length) (nvs gr) (nss N) met low (ovs s.of) stk (nss s.grp) (bvr c)) = some (if (m.all fun i => (nd N i).all (rdK s c i)) = true then (1, [nss N, met, low, ovs s.of, stk, nss s.grp, bvr c]) else (0, [nss N, met, low, ovs s.of, stk, nss s.grp, bvr c, bf]))
  | [], j, hd => by
    have hj : ¬ (j : Int) < gr.length := by have := congrArg List.length hd; simp at this; omega
    refine Evl.of ?_
    rw [h29bb0a, g29bb0a]
    simp [hj]
  | x :: m, j, hd => by
    have hxx : gr[j]? = some x := by have := congrArg List.head? hd; rwa [List.head?_drop] at this
    have hj : (j : Int) < gr.length := by have := (List.getElem?_eq_some_iff.1 hxx).1; omega
    have hd' : gr.drop (j + 1) = m := by rw [← List.drop_drop, hd]; rfl
    have hx := hg x (List.mem_of_getElem? hxx)
    have ih := rd_out hB h c hc met low stk gr hg hgl m (j + 1) hd'
    have e0 := wr (n := j) (by omega)
    rw [c1] at ih e0
    have hin := rd_in hB h hx c hc met low stk (iv (j : Int)) (iv gr.length) (nvs gr) (nd N x) 0 rfl
    simp only [Int.natCast_zero, Int.ofNat_zero] at hin
    have hrow := (need_at hB hx).1
    refine Evl.of ?_
    rw [h29bb0a, g29bb0a, List.all_cons]
    generalize (nd N x).all (rdK s c x) = b at hin
    generalize nd N x = row at *
    cases b with
    | true =>
      rw [if_pos rfl] at hin
      simp [hj, idx_nvs hxx, idx_nss hrow, hin, e0, ih]
    | false =>
      rw [if_neg (by simp)] at hin
      simp [hj, idx_nvs hxx, idx_nss hrow, hin, e0, ih]
theorem ready_ev (hB : Bnd N) (h : Done N s) (c : List Bool) (hc : c.length = s.grp.length) (met low stk : PV) (gr : List Nat) (hg : ∀ x ∈ gr, x < N.length) (hgl : gr.length ≤ 1000000000) :
    ev (q29b (nvs gr) (nss N) met low (ovs s.of) stk (nss s.grp) (bvr c)) = some (0, [nss N, met, low, ovs s.of, stk, nss s.grp, bvr c, bv (readyF N s c gr)]) := Evl.of (by
  have h1 := rd_out hB h c hc met low stk gr hg hgl gr 0 rfl
  have hr : readyF N s c gr = gr.all fun i => (nd N i).all (rdK s c i) := rfl
  simp only [Int.natCast_zero, Int.ofNat_zero] at h1
  rw [h29b, g29b, hr]
  generalize (gr.all fun i => (nd N i).all (rdK s c i)) = b at h1
  cases b with
  | true => rw [if_pos rfl] at h1; simp [h1]
  | false => rw [if_neg (by simp)] at h1; simp [h1])
end

theorem sorted_len {n : Nat} : ∀ (l : List Nat) (lo : Nat), l.Pairwise (· < ·) → (∀ x ∈ l, lo ≤ x ∧ x < n) → lo ≤ n → l.length + lo ≤ n
  | [], lo, _, _, h => by simpa using h
  | a :: l, lo, hp, hm, h => by
    obtain ⟨h1, h2⟩ := List.pairwise_cons.1 hp
    obtain ⟨h3, h4⟩ := hm a (List.mem_cons_self ..)
    have := sorted_len l (a + 1) h2 (fun x hx => ⟨h1 x hx, (hm x (List.mem_cons_of_mem _ hx)).2⟩) (by omega)
    simp
    omega
section
variable {N : List (List Nat)} {s : St}
theorem gat_idx {j : Nat} (hj : j < s.grp.length) : s.grp[j]? = some (gat s j) := gat_some hj
theorem hd_idx (h : Done N s) {j : Nat} (hj : j < s.grp.length) : (gat s j)[0]? = some (hdG (gat s j)) := by
  obtain ⟨h1, _, _⟩ := h.inv.gs j _ (gat_some hj)
  cases hg : gat s j with
  | nil => exact absurd hg h1
  | cons a l => rfl
theorem gat_lt (h : Done N s) {j : Nat} (hj : j < s.grp.length) : ∀ x ∈ gat s j, x < N.length := fun x hx => ((gat_mem h hj).1 hx).1
theorem gat_len (hB : Bnd N) (h : Done N s) {j : Nat} (hj : j < s.grp.length) : (gat s j).length ≤ 1000000000 := by
  obtain ⟨_, h2, _⟩ := h.inv.gs j _ (gat_some hj)
  have h3 := sorted_len (n := N.length) (gat s j) 0 h2 (fun x hx => ⟨Nat.zero_le _, gat_lt h hj x hx⟩) (Nat.zero_le _)
  have := hB.len
  omega
def ST6 (N : List (List Nat)) (s : St) : List PV := [nss N, nvs s.met, nvs s.low, ovs s.of, nvs s.stk, nss s.grp]

theorem pick_a (hB : Bnd N) (h : Done N s) (c : List Bool) (hc : c.length = s.grp.length) : ∀ (m i : Nat), N.length - i = m →
    ev (q18db2a (iv (i : Int)) (iv N.length) (nss N) (nvs s.met) (nvs s.low) (ovs s.of) (nvs s.stk) (nss s.grp) (bvr c)) = some (match (fromR N i).find? (okP N s c) with | some a => (2, [nss N, nvs s.met, nvs s.low, ovs s.of, nvs s.stk, nss s.grp, bvr (c.set (gi s a) true), nss ([gat s (gi s a)])]) | none => (3, [nss N, nvs s.met, nvs s.low, ovs s.of, nvs s.stk, nss s.grp, bvr c, nS]))
  | 0, i, hm => by
    have hk : ¬ (i : Int) < N.length := by omega
    refine Evl.of ?_
    rw [h18db2a, g18db2a, from_out (by omega)]
    simp [hk]
  | m + 1, i, hm => by
    have hin : i < N.length := by omega
    have hk : (i : Int) < N.length := by omega
    have hbl := hB.len
    have ih := pick_a hB h c hc m (i + 1) (by omega)
    have e0 := wr (n := i) (by omega)
    rw [c1] at ih e0
    have hof := gof_at h hin
    have hgl := gi_lt h hin
    have hck := come_at (c := c) (k := gi s i) (by rw [hc]; exact hgl)
    have hga := gat_idx hgl
    have hhd := hd_idx h hgl
    have hrd := ready_ev hB h c hc (nvs s.met) (nvs s.low) (nvs s.stk) (gat s (gi s i)) (gat_lt h hgl) (gat_len hB h hgl)
    have hset := fun kp => set_bvr (d := Res.fail) (kp := kp) (l := c) (x := true) (i := gi s i) (by rw [hc]; exact hgl)
    have hap := fun kp => apn_nss (d := Res.fail) (kp := kp) (x := gat s (gi s i))
    have hi0 := fun k => idx_nvs (d := Res.fail) (k := k) hhd
    simp only [Int.natCast_zero, Int.ofNat_zero] at hi0
    refine Evl.of ?_
    rw [h18db2a, g18db2a, from_in hin, List.find?_cons]
    have hok : okP N s c i = (!c.getD (gi s i) false && (decide (hdG (gat s (gi s i)) = i) && readyF N s c (gat s (gi s i)))) := rfl
    rw [hok]
    cases h1 : c.getD (gi s i) false with
    | true =>
      rw [h1] at hck
      simp [hk, idx_ovs hof, eO, idx_bvr hck, e0, ih]
    | false =>
      rw [h1] at hck
      by_cases h2 : hdG (gat s (gi s i)) = i
      · have h2' : (hdG (gat s (gi s i)) : Int) = i := by omega
        cases h3 : readyF N s c (gat s (gi s i)) with
        | true =>
          rw [h3] at hrd
          simp [hk, idx_ovs hof, eO, idx_bvr hck, idx_nss hga, hi0, h2, hrd, hset, hap]
        | false =>
          rw [h3] at hrd
          simp [hk, idx_ovs hof, eO, idx_bvr hck, idx_nss hga, hi0, h2, hrd, e0, ih]
      · have h2' : ¬ (hdG (gat s (gi s i)) : Int) = i := by omega
        simp [hk, idx_ovs hof, eO, idx_bvr hck, idx_nss hga, hi0, h2, h2', e0, ih]

theorem pick_b (hB : Bnd N) (h : Done N s) (c : List Bool) (hc : c.length = s.grp.length) (o : List (List Nat)) (ho : o.length ≤ 1000000) : ∀ (m i : Nat), N.length - i = m →
    ev (q18db2b (iv (i : Int)) (iv N.length) (nss N) (nvs s.met) (nvs s.low) (ovs s.of) (nvs s.stk) (nss s.grp) (bvr c) (nss o)) = some (match (fromR N i).find? (okP N s c) with | some a => (0, [nss N, nvs s.met, nvs s.low, ovs s.of, nvs s.stk, nss s.grp, bvr (c.set (gi s a) true), nss (o ++ [gat s (gi s a)])]) | none => (1, [nss N, nvs s.met, nvs s.low, ovs s.of, nvs s.stk, nss s.grp, bvr c, nss o]))
  | 0, i, hm => by
    have hk : ¬ (i : Int) < N.length := by omega
    refine Evl.of ?_
    rw [h18db2b, g18db2b, from_out (by omega)]
    simp [hk]
  | m + 1, i, hm => by
    have hin : i < N.length := by omega
    have hk : (i : Int) < N.length := by omega
    have hbl := hB.len
    have ih := pick_b hB h c hc o ho m (i + 1) (by omega)
    have e0 := wr (n := i) (by omega)
    rw [c1] at ih e0
    have hof := gof_at h hin
    have hgl := gi_lt h hin
    have hck := come_at (c := c) (k := gi s i) (by rw [hc]; exact hgl)
    have hga := gat_idx hgl
    have hhd := hd_idx h hgl
    have hrd := ready_ev hB h c hc (nvs s.met) (nvs s.low) (nvs s.stk) (gat s (gi s i)) (gat_lt h hgl) (gat_len hB h hgl)
    have hset := fun kp => set_bvr (d := Res.fail) (kp := kp) (l := c) (x := true) (i := gi s i) (by rw [hc]; exact hgl)
    have hap := fun kp => app_nss (d := Res.fail) (kp := kp) (l := o) (x := gat s (gi s i)) (by omega)
    have hi0 := fun k => idx_nvs (d := Res.fail) (k := k) hhd
    simp only [Int.natCast_zero, Int.ofNat_zero] at hi0
    refine Evl.of ?_
    rw [h18db2b, g18db2b, from_in hin, List.find?_cons]
    have hok : okP N s c i = (!c.getD (gi s i) false && (decide (hdG (gat s (gi s i)) = i) && readyF N s c (gat s (gi s i)))) := rfl
    rw [hok]
    cases h1 : c.getD (gi s i) false with
    | true =>
      rw [h1] at hck
      simp [hk, idx_ovs hof, eO, idx_bvr hck, e0, ih]
    | false =>
      rw [h1] at hck
      by_cases h2 : hdG (gat s (gi s i)) = i
      · have h2' : (hdG (gat s (gi s i)) : Int) = i := by omega
        cases h3 : readyF N s c (gat s (gi s i)) with
        | true =>
          rw [h3] at hrd
          simp [hk, idx_ovs hof, eO, idx_bvr hck, idx_nss hga, hi0, h2, hrd, hset, hap]
        | false =>
          rw [h3] at hrd
          simp [hk, idx_ovs hof, eO, idx_bvr hck, idx_nss hga, hi0, h2, hrd, e0, ih]
      · have h2' : ¬ (hdG (gat s (gi s i)) : Int) = i := by omega
        simp [hk, idx_ovs hof, eO, idx_bvr hck, idx_nss hga, hi0, h2, h2', e0, ih]

theorem pickP_lt {c : List Bool} {i : Nat} (hp : pickP N s c = some i) : i < N.length := by
  unfold pickP at hp
  rw [List.find?_range_eq_some] at hp
  exact List.mem_range.1 hp.2.1
theorem ord_b (hB : Bnd N) (h : Done N s) (hgl : s.grp.length ≤ 100000) : ∀ (m : Nat) (c : List Bool) (o out : List (List Nat)), o.length + m = s.grp.length → c.length = s.grp.length → ordF N s m c o = some out →
    ∃ c', ev (q18db0b (nss N) (nvs s.met) (nvs s.low) (ovs s.of) (nvs s.stk) (nss s.grp) (bvr c) (nss o)) = some (1, [nss N, nvs s.met, nvs s.low, ovs s.of, nvs s.stk, nss s.grp, bvr c', nss out])
  | 0, c, o, out, hm, hc, ho => by
    have hk : ¬ (o.length : Int) < s.grp.length := by omega
    rw [ordF] at ho
    cases ho
    refine ⟨c, Evl.of ?_⟩
    rw [h18db0b, g18db0b]
    simp [hk]
  | m + 1, c, o, out, hm, hc, ho => by
    have hk : (o.length : Int) < s.grp.length := by omega
    rw [ordF] at ho
    have hp := pick_b hB h c hc o (by omega) N.length 0 (by omega)
    rw [show (fromR N 0).find? (okP N s c) = pickP N s c from rfl] at hp
    simp only [Int.natCast_zero, Int.ofNat_zero] at hp
    cases hpk : pickP N s c with
    | none => rw [hpk] at ho; cases ho
    | some i =>
      rw [hpk] at ho hp
      obtain ⟨c', ih⟩ := ord_b hB h hgl m (c.set (gi s i) true) (o ++ [gat s (gi s i)]) out (by simp; omega) (by simp [hc]) ho
      refine ⟨c', Evl.of ?_⟩
      rw [h18db0b, g18db0b]
      simp [hk, hp, ih]
theorem ord_a (hB : Bnd N) (h : Done N s) (hgl : s.grp.length ≤ 100000) (hne : s.grp ≠ []) (c : List Bool) (out : List (List Nat)) (hc : c.length = s.grp.length) (ho : ordF N s s.grp.length c [] = some out) :
    ∃ c', ev (q18db0a (nss N) (nvs s.met) (nvs s.low) (ovs s.of) (nvs s.stk) (nss s.grp) (bvr c)) = some (1, [nss N, nvs s.met, nvs s.low, ovs s.of, nvs s.stk, nss s.grp, bvr c', nss out]) := by
  have hl : 0 < s.grp.length := List.length_pos_iff.2 hne
  have hk : (0 : Int) < s.grp.length := by omega
  obtain ⟨m, hm⟩ : ∃ m, s.grp.length = m + 1 := ⟨s.grp.length - 1, by omega⟩
  have hp := pick_a hB h c hc N.length 0 (by omega)
  rw [show (fromR N 0).find? (okP N s c) = pickP N s c from rfl] at hp
  simp only [Int.natCast_zero, Int.ofNat_zero] at hp
  rw [hm, ordF] at ho
  cases hpk : pickP N s c with
  | none => rw [hpk] at ho; cases ho
  | some i =>
    rw [hpk] at ho hp
    obtain ⟨c', ih⟩ := ord_b hB h hgl m (c.set (gi s i) true) [gat s (gi s i)] out (by simp; omega) (by simp [hc]) ho
    refine ⟨c', Evl.of ?_⟩
    rw [h18db0a, g18db0a]
    simp [hl, hk, hp, ih]
theorem order_ev (hB : Bnd N) (h : Done N s) (hne : s.grp ≠ []) : ev (q18d (nss N) (nvs s.met) (nvs s.low) (ovs s.of) (nvs s.stk) (nss s.grp)) = some (0, [nss N, nvs s.met, nvs s.low, ovs s.of, nvs s.stk, nss s.grp, nss (groupsR N)]) := by
  have hgl := (stk_le hB h.inv.wf).2.1
  obtain ⟨c', h1⟩ := ord_a hB h hgl hne (List.replicate s.grp.length false) (groupsR N) (by simp) (groups_eq hB.rng h)
  have hmk := fun kp => mk_bvr (d := Res.fail) (kp := kp) (n := s.grp.length) (by omega)
  refine Evl.of ?_
  rw [h18d, g18d]
  simp [hmk, h1]
/-! All things are visited. -/
theorem loopP_cons (F i : Nat) (is : List Nat) (s : St) : loopP N F (i :: is) s = if mt s i = 0 then (match visF N F i s with | none => none | some s' => loopP N F is s') else loopP N F is s := rfl
theorem parts_d (hB : Bnd N) (F : Nat) : ∀ (t i : Nat) (s s' : St), i + t = N.length → WF N s → s.grp ≠ [] → loopP N F (fromR N i) s = some s' →
    ev (q17ab0d (iv (i : Int)) (iv N.length) (nss N) (nvs s.met) (nvs s.low) (ovs s.of) (iv s.n) (nvs s.stk) (nss s.grp)) = some (3, [nss N, nvs s'.met, nvs s'.low, ovs s'.of, iv s'.n, nvs s'.stk, nss s'.grp])
  | 0, i, s, s', hi, hw, hg, h => by
    have hk : ¬ (i : Int) < N.length := by omega
    rw [from_out (by omega), loopP] at h
    cases h
    refine Evl.of ?_
    rw [h17ab0d, g17ab0d]
    simp [hk]
  | t + 1, i, s, s', hi, hw, hg, h => by
    have hin : i < N.length := by omega
    have hk : (i : Int) < N.length := by omega
    have hbl := hB.len
    have e0 := wr (n := i) (by omega)
    rw [c1] at e0
    rw [from_in hin, loopP_cons] at h
    have V := vis_ok hB F
    by_cases h0 : mt s i = 0
    · rw [if_pos h0] at h
      have hm : s.met[i]? = some 0 := at_of h0 (by rw [hw.m]; exact hin)
      split at h
      · cases h
      · rename_i s1 h1
        obtain ⟨hw1, hk1, _⟩ := V.keep i s s1 hin hw h0 h1
        have hd := V.d i s s1 hin hw h0 h1 hg
        have ih := parts_d hB F t (i + 1) s1 s' (by omega) hw1 (grp_ne hk1 hg) h
        rw [c1] at ih
        refine Evl.of ?_
        rw [h17ab0d, g17ab0d]
        by_cases hs : s1.grp = s.grp
        · rw [ansD, if_pos hs] at hd
          rw [hs] at hd ih
          simp [hk, idx_nvs hm, hd, e0, ih]
        · rw [ansD, if_neg hs] at hd
          simp [hk, idx_nvs hm, hd, e0, ih]
    · rw [if_neg h0] at h
      have hm : s.met[i]? = some (mt s i) := at_of rfl (by rw [hw.m]; exact hin)
      have ih := parts_d hB F t (i + 1) s s' (by omega) hw hg h
      rw [c1] at ih
      refine Evl.of ?_
      rw [h17ab0d, g17ab0d]
      simp [hk, idx_nvs hm, h0, e0, ih]
theorem parts_ev (hB : Bnd N) (hN : N ≠ []) {s : St} (h : loopP N N.length (List.range N.length) (startS N) = some s) : ev (q17a (nss N) (nvs (startS N).met) (nvs (startS N).low) (ovs (startS N).of)) = some (3, [nss N, nvs s.met, nvs s.low, ovs s.of, nvs s.stk, nss s.grp]) := by
  have hl : 0 < N.length := List.length_pos_iff.2 hN
  have hk : (0 : Int) < N.length := by omega
  have hfr : List.range N.length = fromR N 0 := rfl
  have h0 : mt (startS N) 0 = 0 := getD_rep _ _ _ rfl 0
  have hm : (startS N).met[0]? = some 0 := at_of h0 (by rw [(start_wf N).m]; exact hl)
  have hm0 := fun k => idx_nvs (d := Res.fail) (k := k) hm
  simp only [Int.natCast_zero, Int.ofNat_zero] at hm0
  rw [hfr, from_in hl, loopP_cons, if_pos h0] at h
  have hc : (startS N).met.count 0 ≤ N.length := by rw [← (start_wf N).m]; exact List.count_le_length
  obtain ⟨s1, e1, p⟩ := vis_inv hB.rng N.length 0 (startS N) [] (start_inv N) hl h0 (fun g hg => by cases hg) hc
  rw [e1] at h
  have hne : s1.grp ≠ [] := fun e => by
    have hmt : mt s1 0 ≠ 0 := by rw [p.met]; omega
    have hst := p.inv.bare
    cases hg : gof s1 0 with
    | none =>
      have := (p.inv.on 0).2 ⟨hmt, hg⟩
      rw [hst] at this; cases this
    | some j =>
      have := p.inv.dl 0 j hg
      rw [e] at this
      exact Nat.not_lt_zero _ this
  have ha := vis_a' hB hl (start_wf N) h0 e1 rfl rfl
  rw [ansC, if_neg hne] at ha
  have hd := parts_d hB N.length (N.length - 1) 1 s1 s (by omega) p.inv.wf hne h
  have e0 : IntKind.i64.wrap 1 = 1 := by decide
  have hn0 : ((startS N).n : Int) = 0 := rfl
  rw [hn0] at ha
  simp only [Int.natCast_zero, Int.ofNat_zero, Int.natCast_one] at ha hd
  have hla : ev (q17ab0a (iv 0) (iv N.length) (nss N) (nvs (startS N).met) (nvs (startS N).low) (ovs (startS N).of) (iv 0)) = some (3, [nss N, nvs s.met, nvs s.low, ovs s.of, iv s.n, nvs s.stk, nss s.grp]) := Evl.of (by
    rw [h17ab0a, g17ab0a]
    simp [hl, hk, hm0, ha, e0, hd])
  refine Evl.of ?_
  rw [h17a, g17a]
  simp [hla]
end
end Go.Proofs.Ytkfdklocgpgbfaa
