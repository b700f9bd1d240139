/- Joined texts. -/
import Derived.Test.YtkfdklocgpgbfaaBg
import Derived.Test.YtkfdklocgpgbfaaBf
set_option linter.unusedVariables false
set_option linter.unusedSimpArgs false
set_option linter.unusedSectionVars false
namespace Go.Proofs.Ytkfdklocgpgbfaa
open Go.RowKit

/-! Are all needs things? -/
def okRow (n : Nat) (r : List Int) : Bool := r.all fun k => decide (0 ≤ k) && decide (k < (n : Int))
structure Sml (l : List (List Int)) : Prop where
  len : l.length ≤ 100000
  row : ∀ r ∈ l, r.length ≤ 1000000000
theorem chk_row (n : Nat) (r : List Int) (hr : r.length ≤ 1000000000) (y z u w : PV) : ∀ (m : List Int) (j : Nat), r.drop j = m →
    ev (q9b2a (iv (j : Int)) (iv r.length) (zvs r) (iv n) y z u w) = some (if okRow n m = true then (1, [y, z, u, iv n, w]) else (0, [nS, iv 2]))
  | [], j, hd => by
    have hj : ¬ (j : Int) < r.length := by have := congrArg List.length hd; simp at this; omega
    refine Evl.of ?_
    rw [h9b2a, g9b2a]
    simp [hj, okRow]
  | k :: m, j, hd => by
    have hx : r[j]? = some k := by have := congrArg List.head? hd; rwa [List.head?_drop] at this
    have hj : (j : Int) < r.length := by have := (List.getElem?_eq_some_iff.1 hx).1; omega
    have hd' : r.drop (j + 1) = m := by rw [← List.drop_drop, hd]; rfl
    have ih := chk_row n r hr y z u w m (j + 1) hd'
    have e0 := wr (n := j) (by omega)
    rw [c1] at ih e0
    have ho : okRow n (k :: m) = (decide (0 ≤ k) && decide (k < (n : Int)) && okRow n m) := rfl
    refine Evl.of ?_
    rw [h9b2a, g9b2a, ho]
    by_cases h1 : k < 0
    · have h1' : ¬ 0 ≤ k := by omega
      simp [hj, idx_zvs hx, h1, h1']
    · have h1' : 0 ≤ k := by omega
      by_cases h2 : k < (n : Int)
      · have h2' : ¬ (n : Int) ≤ k := by omega
        simp [hj, idx_zvs hx, h1, h1', h2, h2', e0, ih]
      · have h2' : (n : Int) ≤ k := by omega
        simp [hj, idx_zvs hx, h1, h1', h2, h2']
theorem chk_all (l : List (List Int)) (hs : Sml l) : ∀ (m : List (List Int)) (i : Nat), l.drop i = m →
    ev (q9b0a (iv (i : Int)) (iv l.length) (zss l) (iv l.length) (zss l)) = some (if (m.all (okRow l.length)) = true then (1, [zss l, iv l.length]) else (0, [nS, iv 2]))
  | [], i, hd => by
    have hj : ¬ (i : Int) < l.length := by have := congrArg List.length hd; simp at this; omega
    refine Evl.of ?_
    rw [h9b0a, g9b0a]
    simp [hj]
  | r :: m, i, hd => by
    have hx : l[i]? = some r := by have := congrArg List.head? hd; rwa [List.head?_drop] at this
    have hj : (i : Int) < l.length := by have := (List.getElem?_eq_some_iff.1 hx).1; omega
    have hd' : l.drop (i + 1) = m := by rw [← List.drop_drop, hd]; rfl
    have ih := chk_all l hs m (i + 1) hd'
    have hl := hs.len
    have e0 := wr (n := i) (by omega)
    rw [c1] at ih e0
    have h1 := chk_row l.length r (hs.row r (List.mem_of_getElem? hx)) (iv (i : Int)) (iv l.length) (zss l) (zss l) r 0 rfl
    simp only [Int.natCast_zero, Int.ofNat_zero] at h1
    refine Evl.of ?_
    rw [h9b0a, g9b0a, List.all_cons]
    cases hb : okRow l.length r with
    | true =>
      rw [if_pos hb] at h1
      simp [hj, idx_zss hx, h1, e0, ih]
    | false =>
      rw [if_neg (by rw [hb]; simp)] at h1
      simp [hj, idx_zss hx, h1]
/-! The rows of groups are told to be none. -/
theorem fill_ev (met low : PV) (nds : PV) (n : Nat) (hn : n ≤ 100000) : ∀ (m i : Nat), i + m = n →
    ev (q9b4a (iv (i : Int)) (iv n) nds met low (zvs (List.replicate i (-1) ++ List.replicate m 0))) = some (0, [nds, nS, nS, met, low, zvs (List.replicate n (-1))])
  | 0, i, hi => by
    have hk : ¬ (i : Int) < n := by omega
    have : i = n := by omega
    subst this
    refine Evl.of ?_
    rw [h9b4a, g9b4a]
    simp [hk]
  | m + 1, i, hi => by
    have hk : (i : Int) < n := by omega
    have e0 := wr (n := i) (by omega)
    have ih := fill_ev met low nds n hn m (i + 1) (by omega)
    rw [c1] at ih e0
    have hx : (List.replicate i (-1 : Int) ++ List.replicate (m + 1) 0)[i]? = some 0 := by
      rw [List.getElem?_append_right (by simp)]; simp
    have hset := fun kp => setK_r1 (d := Res.fail) (k := kp) (e := iv) iv_ns (l := List.replicate i (-1 : Int) ++ List.replicate (m + 1) 0) (i := i) (x := -1) (by simp)
    have hs2 : (List.replicate i (-1 : Int) ++ List.replicate (m + 1) 0).set i (-1) = List.replicate (i + 1) (-1) ++ List.replicate m 0 := by
      rw [List.set_append_right _ _ (by simp)]
      simp [List.replicate_succ, List.replicate_succ', List.append_assoc]
      have : ∀ (i : Nat) (l : List Int), List.replicate i (-1 : Int) ++ (-1 :: l) = -1 :: (List.replicate i (-1) ++ l) := by
        intro i
        induction i with
        | zero => intro l; rfl
        | succ i ih => intro l; rw [List.replicate_succ, List.cons_append, ih]; rfl
      rw [this]
    rw [hs2] at hset
    refine Evl.of ?_
    rw [h9b4a, g9b4a]
    generalize List.replicate i (-1 : Int) ++ List.replicate (m + 1) 0 = row at *
    generalize List.replicate (i + 1) (-1 : Int) ++ List.replicate m 0 = row2 at *
    simp only [← zvs_eq] at hset
    simp [hk, idx_zvs hx, hset, e0, ih]
theorem ovs_none (n : Nat) : zvs (List.replicate n (-1)) = ovs (List.replicate n none) := by
  unfold zvs ivs ovs r1
  rw [List.map_replicate, List.map_replicate]; rfl
theorem nvs_zero (n : Nat) : nvs (List.replicate n 0) = zvs (List.replicate n 0) := by
  unfold zvs ivs nvs r1
  rw [List.map_replicate, List.map_replicate]; rfl
theorem okNeeds_eq (l : List (List Int)) : okNeeds l = l.all (okRow l.length) := rfl
/-- Rows whose needs are all things are rows of numbers. -/
theorem needs_nat {l : List (List Int)} (h : okNeeds l = true) : ∃ N : List (List Nat), l = N.map zof ∧ Rng N := by
  refine ⟨l.map fun r => r.map Int.toNat, ?_, ?_⟩
  · rw [List.map_map]
    have : ∀ r ∈ l, (zof ∘ fun r => r.map Int.toNat) r = r := fun r hr => by
      show zof (r.map Int.toNat) = r
      unfold zof
      rw [List.map_map]
      have h1 := List.all_eq_true.1 h r hr
      have h2 : ∀ k ∈ r, ((fun n : Nat => (n : Int)) ∘ Int.toNat) k = k := fun k hk => by
        have h3 := List.all_eq_true.1 h1 k hk
        simp at h3
        show ((k.toNat : Nat) : Int) = k
        omega
      rw [List.map_congr_left h2, List.map_id']
    rw [List.map_congr_left this, List.map_id']
  · intro r hr k hk
    rw [List.mem_map] at hr
    obtain ⟨r', hr', rfl⟩ := hr
    rw [List.mem_map] at hk
    obtain ⟨k', hk', rfl⟩ := hk
    have h1 := List.all_eq_true.1 h r' hr'
    have h3 := List.all_eq_true.1 h1 k' hk'
    simp at h3
    rw [List.length_map]
    omega
theorem okNeeds_nat {N : List (List Nat)} : okNeeds (N.map zof) = true ↔ Rng N := by
  unfold okNeeds Rng
  simp only [List.all_eq_true, List.mem_map, List.length_map, Bool.and_eq_true, decide_eq_true_eq, zof]
  constructor
  · intro h r hr k hk
    have := h (r.map fun (n : Nat) => (n : Int)) ⟨r, hr, rfl⟩ (k : Int) (List.mem_map.2 ⟨k, hk, rfl⟩)
    omega
  · rintro h _ ⟨r, hr, rfl⟩ k hk
    obtain ⟨q, hq, rfl⟩ := List.mem_map.1 hk
    have := h r hr q hq
    omega
theorem Sml.bnd {N : List (List Nat)} (h : Sml (N.map zof)) (hr : Rng N) : Bnd N :=
  ⟨hr, by have := h.len; simpa using this, fun l hl => by have := h.row (zof l) (List.mem_map.2 ⟨l, hl, rfl⟩); simpa [zof] using this⟩
/-- A row of groups: nil, if there are none. -/
def gOut (g : List (List Nat)) : PV := if g = [] then nS else nss g
theorem groupsR_nil : groupsR [] = [] := rfl
theorem groupsR_ne {N : List (List Nat)} (hr : Rng N) (hN : N ≠ []) : groupsR N ≠ [] := by
  obtain ⟨s, _, h⟩ := parts_done hr
  have hl : 0 < N.length := List.length_pos_iff.2 hN
  have hg := gi_lt h hl
  have h1 := groups_eq hr h
  have key : ∀ (m : Nat) (c : List Bool) (o out : List (List Nat)), ordF N s m c o = some out → out.length = o.length + m := by
    intro m
    induction m with
    | zero => intro c o out h; cases h; rfl
    | succ m ih =>
      intro c o out h
      rw [ordF] at h
      split at h
      · cases h
      · have := ih _ _ _ h
        simp at this
        omega
  have := key _ _ _ _ h1
  intro e
  rw [e] at this
  simp at this
  omega
theorem groups_ok {N : List (List Nat)} (hs : Sml (N.map zof)) (hr : Rng N) : ev (q9 (nss N)) = some (0, [gOut (groupsR N), iv 0]) := by
  have hB := hs.bnd hr
  have hbl := hB.len
  have hc := chk_all (N.map zof) hs (N.map zof) 0 rfl
  rw [← okNeeds_eq, if_pos (okNeeds_nat.2 hr), zss_zof, List.length_map] at hc
  have hmk := fun kp => mk_nvs (d := Res.fail) (kp := kp) (n := N.length) (by omega)
  have hfill := fill_ev (nvs (List.replicate N.length 0)) (nvs (List.replicate N.length 0)) (nss N) N.length (by omega) N.length 0 (by omega)
  rw [show List.replicate 0 (-1 : Int) ++ List.replicate N.length 0 = List.replicate N.length 0 from rfl, ← nvs_zero, ovs_none] at hfill
  simp only [Int.natCast_zero, Int.ofNat_zero] at hc hfill
  by_cases hN : N = []
  · subst hN
    have h17 : ev (q17a (nss []) (nvs []) (nvs []) (ovs [])) = some (0, [nss [], nS, nS, nvs [], nvs [], ovs []]) := by
      have hl : ev (q17ab0a (iv 0) (iv 0) (nss []) (nvs []) (nvs []) (ovs []) (iv 0)) = some (0, [nss [], nS, nS, nvs [], nvs [], ovs [], iv 0]) := Evl.of (by
        rw [h17ab0a, g17ab0a]; simp)
      refine Evl.of ?_
      rw [h17a, g17a]
      simp [hl]
    have h18 : ev (q18a (nss []) (nvs []) (nvs []) (ovs [])) = some (0, [nss [], nS, nS, nvs [], nvs [], ovs [], nS]) := by
      have hl : ev (q18ab0a (nss []) (nvs []) (nvs []) (ovs [])) = some (0, [nss [], nS, nS, nvs [], nvs [], ovs [], nS]) := Evl.of (by
        rw [h18ab0a, g18ab0a]; simp)
      refine Evl.of ?_
      rw [h18a, g18a]
      simp [hl]
    simp only [List.length_nil, Int.natCast_zero, Int.ofNat_zero, List.replicate_zero] at hc hfill
    have hmk0 := fun kp => mk_nvs (d := Res.fail) (kp := kp) (n := 0) (by omega)
    simp only [Int.natCast_zero, Int.ofNat_zero, List.replicate_zero] at hmk0
    refine Evl.of ?_
    rw [h9, g9]
    simp [hc, hmk0, hfill, h17, h18, gOut, groupsR_nil]
  · obtain ⟨s, h1, hD⟩ := parts_done hr
    have hp := parts_ev hB hN h1
    have hne : s.grp ≠ [] := fun e => by
      have := gi_lt hD (List.length_pos_iff.2 hN)
      rw [e] at this
      exact Nat.not_lt_zero _ this
    have hord := order_ev hB hD hne
    have hgne := groupsR_ne hr hN
    unfold startS at hp
    refine Evl.of ?_
    rw [h9, g9]
    simp [hc, hmk, hfill, hp, hord, gOut, hgne]
theorem groups_bad {l : List (List Int)} (hs : Sml l) (h : okNeeds l = false) : ev (q9 (zss l)) = some (0, [nS, iv 2]) := by
  have hc := chk_all l hs l 0 rfl
  rw [← okNeeds_eq, if_neg (by rw [h]; simp)] at hc
  simp only [Int.natCast_zero, Int.ofNat_zero] at hc
  refine Evl.of ?_
  rw [h9, g9]
  simp [hc]
/-! The document's groups. -/
theorem rchk_row (l : List (List Int)) (hs : Sml l) {i : Nat} {r : List Int} (hx : l[i]? = some r) : ∀ (m : List Int) (j : Nat), r.drop j = m →
    ev (q10b2a (iv (j : Int)) (zss l) (iv i)) = some (if okRow l.length m = true then (1, [iv i, zss l]) else (0, [nS, bf]))
  | [], j, hd => by
    have hj : ¬ (j : Int) < r.length := by have := congrArg List.length hd; simp at this; omega
    refine Evl.of ?_
    rw [h10b2a, g10b2a]
    simp [idx_zss hx, hj, okRow]
  | k :: m, j, hd => by
    have hk : r[j]? = some k := by have := congrArg List.head? hd; rwa [List.head?_drop] at this
    have hj : (j : Int) < r.length := by have := (List.getElem?_eq_some_iff.1 hk).1; omega
    have hd' : r.drop (j + 1) = m := by rw [← List.drop_drop, hd]; rfl
    have ih := rchk_row l hs hx m (j + 1) hd'
    have hrl := hs.row r (List.mem_of_getElem? hx)
    have e0 := wr (n := j) (by omega)
    rw [c1] at ih e0
    have ho : okRow l.length (k :: m) = (decide (0 ≤ k) && decide (k < (l.length : Int)) && okRow l.length m) := rfl
    refine Evl.of ?_
    rw [h10b2a, g10b2a, ho]
    by_cases h1 : k < 0
    · have h1' : ¬ 0 ≤ k := by omega
      simp [idx_zss hx, hj, idx_zvs hk, h1, h1']
    · have h1' : 0 ≤ k := by omega
      by_cases h2 : k < (l.length : Int)
      · have h2' : ¬ (l.length : Int) ≤ k := by omega
        simp [idx_zss hx, hj, idx_zvs hk, h1, h1', h2, h2', e0, ih]
      · have h2' : (l.length : Int) ≤ k := by omega
        simp [idx_zss hx, hj, idx_zvs hk, h1, h1', h2, h2']
theorem rchk_all (l : List (List Int)) (hs : Sml l) : ∀ (m : List (List Int)) (i : Nat), l.drop i = m →
    ev (q10b0a (iv (i : Int)) (zss l)) = some (if (m.all (okRow l.length)) = true then (1, [zss l]) else (0, [nS, bf]))
  | [], i, hd => by
    have hj : ¬ (i : Int) < l.length := by have := congrArg List.length hd; simp at this; omega
    refine Evl.of ?_
    rw [h10b0a, g10b0a]
    simp [hj]
  | r :: m, i, hd => by
    have hx : l[i]? = some r := by have := congrArg List.head? hd; rwa [List.head?_drop] at this
    have hj : (i : Int) < l.length := by have := (List.getElem?_eq_some_iff.1 hx).1; omega
    have hd' : l.drop (i + 1) = m := by rw [← List.drop_drop, hd]; rfl
    have ih := rchk_all l hs m (i + 1) hd'
    have hl := hs.len
    have e0 := wr (n := i) (by omega)
    rw [c1] at ih e0
    have h1 := rchk_row l hs hx r 0 rfl
    simp only [Int.natCast_zero, Int.ofNat_zero] at h1
    refine Evl.of ?_
    rw [h10b0a, g10b0a, List.all_cons]
    cases hb : okRow l.length r with
    | true =>
      rw [if_pos hb] at h1
      simp [hj, h1, e0, ih]
    | false =>
      rw [if_neg (by rw [hb]; simp)] at h1
      simp [hj, h1]
theorem rch_ev {N : List (List Nat)} (hs : Sml (N.map zof)) (hr : Rng N) : ev (q12 (nss N)) = some (0, [bsr (rbRows N)]) := Evl.of (by
  rw [h12]
  have h1 : rchP [nss N] = some (0, [bsr (rbRows N)]) := by
    rw [← zss_zof, zss, rchP, rowsOf_iss]
    have hl := hs.len
    have e1 : okNeeds (N.map zof) = true := okNeeds_nat.2 hr
    have e2 : PV.rows (bss (reachRows (N.map zof))) = bsr (rbRows N) := by
      have : reachRows (N.map zof) = rbRows N := by
        unfold reachRows rbRows RB
        rw [List.length_map]; rfl
      rw [this]; rfl
    have e3 : ((N.map zof).all fun l => decide (l.length ≤ 1000000000)) = true := List.all_eq_true.2 fun r hr => decide_eq_true (hs.row r hr)
    simp only [e1, hl, e2, e3, and_self, if_true]
  rw [h1]; rfl)
theorem ref_ok {N : List (List Nat)} (hs : Sml (N.map zof)) (hr : Rng N) : ev (q10w (nss N)) = some (0, [nss (groupsR N), bt]) := by
  have hB := hs.bnd hr
  have hbl := hB.len
  have hc := rchk_all (N.map zof) hs (N.map zof) 0 rfl
  rw [← okNeeds_eq, if_pos (okNeeds_nat.2 hr), zss_zof] at hc
  have hmk := fun kp => mk_bvr (d := Res.fail) (kp := kp) (n := N.length) (by omega)
  obtain ⟨c', hl⟩ := ref_n hbl N.length 0 (List.replicate N.length false) (by omega) (by simp)
  rw [show refF N N.length (List.replicate N.length false) [] = groupsR N from rfl] at hl
  have hrch := rch_ev hs hr
  simp only [Int.natCast_zero, Int.ofNat_zero] at hc hl
  have h10' : ev (q10 (nss N)) = some (if groupsR N = [] then (0, [nS, bt]) else (1, [nss (groupsR N), bt])) := Evl.of (by
    rw [h10, g10]
    by_cases hg : groupsR N = []
    · rw [if_pos hg] at hl
      simp [hc, hrch, hmk, hl, hg]
    · rw [if_neg hg] at hl
      simp [hc, hrch, hmk, hl, hg])
  refine Evl.of ?_
  rw [h10w]
  show weakK (ev (q10 (nss N))) = _
  rw [h10']
  by_cases hg : groupsR N = []
  · rw [if_pos hg, hg]; rfl
  · rw [if_neg hg]; rfl
theorem ref_bad {l : List (List Int)} (hs : Sml l) (h : okNeeds l = false) : ev (q10w (zss l)) = some (0, [nss [], bf]) := by
  have hc := rchk_all l hs l 0 rfl
  rw [← okNeeds_eq, if_neg (by rw [h]; simp)] at hc
  simp only [Int.natCast_zero, Int.ofNat_zero] at hc
  have h10' : ev (q10 (zss l)) = some (0, [nS, bf]) := Evl.of (by
    rw [h10, g10]
    simp [hc])
  refine Evl.of ?_
  rw [h10w]
  show weakK (ev (q10 (zss l))) = _
  rw [h10']; rfl

theorem awake_ev : ev q7 = some (0, [bv true]) := Evl.of (by rw [h7]; rfl)
/-! Two lists of rows that are one. -/
theorem same_in (G : List (List Nat)) {i : Nat} {g : List Nat} (hx : G[i]? = some g) (hg : g.length ≤ 1000000000) : ∀ (m : List Nat) (j : Nat), g.drop j = m →
    ev (q11b2a (iv (j : Int)) (nss G) (iv i) (nss G)) = some (1, [iv i, nss G, nss G])
  | [], j, hd => by
    have hj : ¬ (j : Int) < g.length := by have := congrArg List.length hd; simp at this; omega
    refine Evl.of ?_
    rw [h11b2a, g11b2a]
    simp [idx_nss hx, hj]
  | k :: m, j, hd => by
    have hk : g[j]? = some k := by have := congrArg List.head? hd; rwa [List.head?_drop] at this
    have hj : (j : Int) < g.length := by have := (List.getElem?_eq_some_iff.1 hk).1; omega
    have hd' : g.drop (j + 1) = m := by rw [← List.drop_drop, hd]; rfl
    have ih := same_in G hx hg m (j + 1) hd'
    have e0 := wr (n := j) (by omega)
    rw [c1] at ih e0
    refine Evl.of ?_
    rw [h11b2a, g11b2a]
    simp [idx_nss hx, hj, idx_nvs hk, e0, ih]
theorem same_out (G : List (List Nat)) (hG : G.length ≤ 1000000000) (hg : ∀ g ∈ G, g.length ≤ 1000000000) : ∀ (m : List (List Nat)) (i : Nat), G.drop i = m →
    ev (q11b0a (iv (i : Int)) (nss G) (nss G)) = some (1, [])
  | [], i, hd => by
    have hj : ¬ (i : Int) < G.length := by have := congrArg List.length hd; simp at this; omega
    refine Evl.of ?_
    rw [h11b0a, g11b0a]
    simp [hj]
  | g :: m, i, hd => by
    have hx : G[i]? = some g := by have := congrArg List.head? hd; rwa [List.head?_drop] at this
    have hj : (i : Int) < G.length := by have := (List.getElem?_eq_some_iff.1 hx).1; omega
    have hd' : G.drop (i + 1) = m := by rw [← List.drop_drop, hd]; rfl
    have ih := same_out G hG hg m (i + 1) hd'
    have e0 := wr (n := i) (by omega)
    rw [c1] at ih e0
    have h1 := same_in G hx (hg g (List.mem_of_getElem? hx)) g 0 rfl
    simp only [Int.natCast_zero, Int.ofNat_zero] at h1
    refine Evl.of ?_
    rw [h11b0a, g11b0a]
    simp [hj, idx_nss hx, h1, e0, ih]
theorem same_self (G : List (List Nat)) (hG : G.length ≤ 1000000000) (hg : ∀ g ∈ G, g.length ≤ 1000000000) : ev (q11 (nss G) (nss G)) = some (0, [bv true]) := by
  have h1 := same_out G hG hg G 0 rfl
  simp only [Int.natCast_zero, Int.ofNat_zero] at h1
  refine Evl.of ?_
  rw [h11, g11]
  simp [h1]
theorem same_nil : ev (q11 nS (nss [])) = some (0, [bv true]) := by
  have h1 : ev (q11b0a (iv 0) nS (nss [])) = some (1, []) := Evl.of (by
    rw [h11b0a, g11b0a]; simp)
  refine Evl.of ?_
  rw [h11, g11]
  simp [h1]
theorem grpR_len {N : List (List Nat)} (a : Nat) : (grpR N a).length ≤ N.length := by
  unfold grpR
  have := List.length_filter_le (tog N a) (List.range N.length)
  rwa [List.length_range] at this
theorem groupsR_len {N : List (List Nat)} (hr : Rng N) : (groupsR N).length ≤ N.length ∧ ∀ g ∈ groupsR N, g.length ≤ N.length := by
  refine ⟨?_, fun g hg => ?_⟩
  · have key : ∀ (t : Nat) (c : List Bool) (o : List (List Nat)), (refF N t c o).length ≤ o.length + t := by
      intro t
      induction t with
      | zero => intro c o; exact Nat.le_refl _
      | succ t ih =>
        intro c o
        rw [refF]
        split
        · have := ih c o; omega
        · rename_i a _
          have := ih (markR c (grpR N a)) (o ++ [grpR N a])
          simp at this
          omega
    have := key N.length (List.replicate N.length false) []
    simpa [groupsR] using this
  · obtain ⟨cr, h, _⟩ := groupsR_outs hr
    obtain ⟨a, _, rfl⟩ := h.grp g hg
    exact grpR_len a
theorem same_g {N : List (List Nat)} (hB : Bnd N) : ev (q11 (gOut (groupsR N)) (nss (groupsR N))) = some (0, [bv true]) := by
  obtain ⟨h1, h2⟩ := groupsR_len hB.rng
  have hl := hB.len
  unfold gOut
  by_cases h : groupsR N = []
  · rw [if_pos h, h]; exact same_nil
  · rw [if_neg h]; exact same_self _ (by omega) (fun g hg => by have := h2 g hg; omega)
/-! Small rows. -/
def smlB (l : List (List Int)) : Bool := l.all (fun r => decide (r.length ≤ 100)) && decide (l.length ≤ 40)
theorem small_l (l : List (List Int)) (hl : l.length ≤ 9223372036854775807) : ∀ (m : List (List Int)) (i : Nat), l.drop i = m →
    ev (q8b0a (iv (i : Int)) (iv l.length) (zss l) (zss l)) = some (if m.all (fun r => decide (r.length ≤ 100)) = true then (1, [zss l]) else (0, [bf]))
  | [], i, hd => by
    have hj : ¬ (i : Int) < l.length := by have := congrArg List.length hd; simp at this; omega
    refine Evl.of ?_
    rw [h8b0a, g8b0a]
    simp [hj]
  | r :: m, i, hd => by
    have hx : l[i]? = some r := by have := congrArg List.head? hd; rwa [List.head?_drop] at this
    have hj : (i : Int) < l.length := by have := (List.getElem?_eq_some_iff.1 hx).1; omega
    have hd' : l.drop (i + 1) = m := by rw [← List.drop_drop, hd]; rfl
    have ih := small_l l hl m (i + 1) hd'
    have e0 : IntKind.i64.wrap ((i : Int) + 1) = (i : Int) + 1 := by rw [IntKind.wrap_i64]; omega
    rw [c1] at ih
    refine Evl.of ?_
    rw [h8b0a, g8b0a, List.all_cons]
    by_cases h : r.length ≤ 100
    · have h' : ¬ (100 : Int) < r.length := by omega
      simp [hj, idx_zss hx, h, h', e0, ih]
    · have h' : (100 : Int) < r.length := by omega
      simp [hj, idx_zss hx, h, h']
theorem small_ev (l : List (List Int)) (hl : l.length ≤ 9223372036854775807) : ev (q8 (zss l)) = some (0, [bv (smlB l)]) := by
  have h1 := small_l l hl l 0 rfl
  simp only [Int.natCast_zero, Int.ofNat_zero] at h1
  refine Evl.of ?_
  rw [h8, g8, smlB]
  cases h : l.all (fun r => decide (r.length ≤ 100)) with
  | true =>
    rw [if_pos h] at h1
    by_cases h2 : l.length ≤ 40
    · have h2' : (l.length : Int) ≤ 40 := by omega
      simp [h1, h2, h2']
    · have h2' : ¬ (l.length : Int) ≤ 40 := by omega
      simp [h1, h2, h2']
  | false =>
    rw [if_neg (by rw [h]; simp)] at h1
    simp [h1]
theorem smlB_sml {l : List (List Int)} (h : smlB l = true) : Sml l ∧ l.length ≤ 40 := by
  unfold smlB at h
  simp only [Bool.and_eq_true, List.all_eq_true, decide_eq_true_eq] at h
  exact ⟨⟨by omega, fun r hr => by have := h.1 r hr; omega⟩, h.2⟩
/-! GroupOrders. -/
theorem orders_ev (l : List (List Int)) (hl : l.length ≤ 9223372036854775807) : ev (q3 (zss l)) = some (0, [bv true]) := by
  have h8 := small_ev l hl
  refine Evl.of ?_
  rw [h3, g3]
  cases hb : smlB l with
  | false =>
    rw [hb] at h8
    simp [awake_ev, h8]
  | true =>
    rw [hb] at h8
    obtain ⟨hs, _⟩ := smlB_sml hb
    cases ho : okNeeds l with
    | false =>
      have h9 := groups_bad hs ho
      have h10 := ref_bad hs ho
      simp [awake_ev, h8, h9, h10, same_nil]
    | true =>
      obtain ⟨N, rfl, hr⟩ := needs_nat ho
      have h9 := groups_ok hs hr
      have h10 := ref_ok hs hr
      have hsm := same_g (hs.bnd hr)
      rw [zss_zof] at h8 ⊢
      simp [awake_ev, h8, h9, h10, hsm]
/-! GroupLast. -/
section
variable {k : PV → Res}
theorem app_rows {l : List (List Int)} (hne : l ≠ []) (hl : l.length ≤ 100000) : appK PG .fail 22 (.pv (.rows [])) (.pv (zss l)) k = k (zss l) := by
  refine appK_of (fun w => ?_) (ns_zss _)
  rw [zss_eq, r1, app_ok sl_ii (es := []) (es' := l.map fun x => [zvs x]) rfl rfl (by simpa using hne) (by simp) (by simp; omega) (by simp; omega)]
  exact Iff.rfl
theorem app_rows1 {l : List (List Int)} {r : List Int} (hl : l.length ≤ 100000) : appK PG .fail 22 (.pv (zss l)) (.pv (.rows [[zvs r]])) k = k (zss (l ++ [r])) := appK_r1 sl_ii ns_zvs (by decide) (by omega)
theorem app_rows0 : appK PG .fail 22 (.pv (.rows [])) (.pv (zss [])) k = .fail := by
  unfold appK theK
  rw [dif_neg]
  rintro ⟨w, ⟨e, sz, by_, zc, es, es', _, _, _, _, _, _, _, h2, h3, _⟩, _⟩
  cases h2
  exact h3 rfl
theorem p0_rows {k : Res} : app0K PG .fail 22 (.pv (.rows [])) (.pv (zss [])) k = k := app0K_of (app0_ok sl_ii (es := []) rfl rfl)
theorem p0_no {k : Res} {l : List (List Int)} (h : l ≠ []) : app0K PG .fail 22 (.pv (.rows [])) (.pv (zss l)) k = .fail := by
  unfold app0K
  rw [if_neg]
  rintro ⟨es, e, sz, _, _, _, h2⟩
  have : rowsN (.pv (zss l)) = some (iss l) := rfl
  simp_all [iss]
theorem more_l (d : Nat) (r : List Int) (hr : r.length ≤ 100) (y z : PV) : ∀ (m : List Int) (j : Nat), r.drop j = m →
    ev (q5b0a (iv (j : Int)) (iv r.length) (zvs r) (iv d) y z) = some (if (m.all fun k => decide (0 ≤ k) && decide (k ≤ (d : Int))) = true then (1, [y, z, iv d]) else (0, [bt]))
  | [], j, hd => by
    have hj : ¬ (j : Int) < r.length := by have := congrArg List.length hd; simp at this; omega
    refine Evl.of ?_
    rw [h5b0a, g5b0a]
    simp [hj]
  | k :: m, j, hd => by
    have hx : r[j]? = some k := by have := congrArg List.head? hd; rwa [List.head?_drop] at this
    have hj : (j : Int) < r.length := by have := (List.getElem?_eq_some_iff.1 hx).1; omega
    have hd' : r.drop (j + 1) = m := by rw [← List.drop_drop, hd]; rfl
    have ih := more_l d r hr y z m (j + 1) hd'
    have e0 := wr (n := j) (by omega)
    rw [c1] at ih e0
    refine Evl.of ?_
    rw [h5b0a, g5b0a, List.all_cons]
    by_cases h1 : k < 0
    · have h1' : ¬ 0 ≤ k := by omega
      simp [hj, idx_zvs hx, h1, h1']
    · have h1' : 0 ≤ k := by omega
      by_cases h2 : k ≤ (d : Int)
      · have h2' : ¬ (d : Int) < k := by omega
        simp [hj, idx_zvs hx, h1, h1', h2, h2', e0, ih]
      · have h2' : (d : Int) < k := by omega
        simp [hj, idx_zvs hx, h1, h1', h2, h2']
theorem last_ev (l : List (List Int)) (r : List Int) (hl : l.length ≤ 9223372036854775807) (hrl : r.length ≤ 9223372036854775807) : ev (q5 (zss l) (zvs r)) = some (0, [bv true]) := by
  have h8 := small_ev l hl
  refine Evl.of ?_
  rw [h5, g5]
  cases hb : smlB l with
  | false =>
    rw [hb] at h8
    simp [awake_ev, h8]
  | true =>
    rw [hb] at h8
    obtain ⟨hs, hl40⟩ := smlB_sml hb
    by_cases hr100 : r.length ≤ 100
    · have hr' : ¬ (100 : Int) < r.length := by omega
      have hm := more_l l.length r hr100 (zss l) (zvs r) r 0 rfl
      simp only [Int.natCast_zero, Int.ofNat_zero] at hm
      cases hmr : (r.all fun k => decide (0 ≤ k) && decide (k ≤ (l.length : Int))) with
      | false =>
        rw [if_neg (by rw [hmr]; simp)] at hm
        simp [awake_ev, h8, hr', hm]
      | true =>
        rw [if_pos hmr] at hm
        have hs2 : Sml (l ++ [r]) := ⟨by simp; omega, fun x hx => by
          rcases List.mem_append.1 hx with hx | hx
          · exact hs.row x hx
          · rw [List.mem_singleton.1 hx]; omega⟩
        have hap : ∀ k : PV → Res, l ≠ [] → appK PG .fail 22 (.pv (.rows [])) (.pv (zss l)) k = k (zss l) := fun k h => app_rows h (by omega)
        have hap1 : ∀ k : PV → Res, appK PG .fail 22 (.pv (zss l)) (.pv (.rows [[zvs r]])) k = k (zss (l ++ [r])) := fun k => app_rows1 (by omega)
        -- the second list, whole
        have hsnd : ∀ (X : PV → Res) (Y : Res), (l = [] → Y = X (zss (l ++ [r]))) → Res.alt (appK PG .fail 22 (.pv (.rows [])) (.pv (zss l)) fun g => appK PG .fail 22 (.pv g) (.pv (.rows [[zvs r]])) X) (app0K PG .fail 22 (.pv (.rows [])) (.pv (zss l)) Y) = X (zss (l ++ [r])) := fun X Y hY => by
          by_cases hn : l = []
          · have := hY hn
            subst hn
            rw [app_rows0, p0_rows, this]; rfl
          · rw [hap _ hn, hap1, p0_no hn, alt_fail']
        cases ho : okNeeds l with
        | false =>
          have h9 := groups_bad hs ho
          by_cases hn : l = []
          · subst hn; cases ho
          · have h9' : ∃ a b, ev (q9 (zss (l ++ [r]))) = some (0, [a, iv b]) := by
              cases ho2 : okNeeds (l ++ [r]) with
              | false => exact ⟨_, _, groups_bad hs2 ho2⟩
              | true =>
                obtain ⟨N, hN, hr2⟩ := needs_nat ho2
                rw [hN] at hs2 ⊢
                exact ⟨_, _, by rw [zss_zof]; exact groups_ok hs2 hr2⟩
            obtain ⟨a, b, h9'⟩ := h9'
            simp [awake_ev, h8, hr', hm, h9, hap _ hn, hap1, p0_no hn, h9']
        | true =>
          obtain ⟨N, hN, hr2⟩ := needs_nat ho
          subst hN
          have h9 := groups_ok hs hr2
          -- the needs of the thing more
          obtain ⟨r2, hr2e, hr2k⟩ : ∃ r2 : List Nat, r = zof r2 ∧ ∀ k ∈ r2, k ≤ N.length := by
            refine ⟨r.map Int.toNat, ?_, fun k hk => ?_⟩
            · unfold zof
              rw [List.map_map]
              have h2 : ∀ k ∈ r, ((fun n : Nat => (n : Int)) ∘ Int.toNat) k = k := fun k hk => by
                have h3 := List.all_eq_true.1 hmr k hk
                simp at h3
                show ((k.toNat : Nat) : Int) = k
                omega
              rw [List.map_congr_left h2, List.map_id']
            · rw [List.mem_map] at hk
              obtain ⟨k', hk', rfl⟩ := hk
              have h3 := List.all_eq_true.1 hmr k' hk'
              simp at h3
              omega
          subst hr2e
          have hN2 : N.map zof ++ [zof r2] = (N ++ [r2]).map zof := by simp
          have hrng2 := hr2.more hr2k
          rw [hN2] at hs2
          have h92 := groups_ok hs2 hrng2
          have hlast := groups_last hr2 hr2k
          have hgl := groupsR_len hr2
          have hgo : gOut (groupsR (N ++ [r2])) = nss (groupsR N ++ [[N.length]]) := by rw [hlast]; unfold gOut; rw [if_neg (by simp)]
          rw [hgo] at h92
          have hsm := same_g (hs.bnd hr2)
          have htk : ∀ k : AV → Res, slcK PG .fail 22 (.pv (nss (groupsR N ++ [[N.length]]))) none (some (.pv (.lit (.int .i64 ((groupsR N).length : Int))))) k = k (.pv (nss (groupsR N))) := fun k => by
            rw [take_nss (by simp)]; simp
          have hix : (groupsR N ++ [[N.length]])[(groupsR N).length]? = some [N.length] := by simp
          have hi0 := fun k => idx_nvs (d := Res.fail) (k := k) (l := [N.length]) (i := 0) (x := N.length) rfl
          simp only [Int.natCast_zero, Int.ofNat_zero] at hi0
          have e0 : IntKind.i64.wrap ((groupsR N).length : Int) = ((groupsR N).length : Int) := by rw [IntKind.wrap_i64]; have := hs.len; simp at this; omega
          have e00 : IntKind.i64.wrap 0 = 0 := by decide
          have hix' := fun k => idx_nss (d := Res.fail) (k := k) hix
          have e1 : ¬ ((groupsR N).length : Int) + 1 = 0 := by omega
          rw [hN2] at hap1
          rw [List.length_map] at hm
          have hzl : (zof r2).length = r2.length := by simp [zof]
          rw [hzl] at hr' hm
          simp only [zss_zof] at *
          by_cases hn : N = []
          · subst hn
            have hrw : PV.rows [[nvs r2]] = nss [r2] := rfl
            have a0 : ∀ k : PV → Res, appK PG .fail 22 (.pv (.rows [])) (.pv (nss [])) k = .fail := fun k => app_rows0
            have a1 : ∀ k : Res, app0K PG .fail 22 (.pv (.rows [])) (.pv (nss [])) k = k := fun k => p0_rows
            simp only [groupsR_nil, List.nil_append, List.length_nil, Int.natCast_zero, Int.ofNat_zero] at h9 h92 hix hix' htk hi0 hm hsm
            rw [zvs_zof] at *
            simp [awake_ev, h8, hr', hm, h9, hrw, a0, a1, h92, hix', hi0, htk, hsm, gOut, same_nil, e00]
          · have hn' : N.map zof ≠ [] := by simpa using hn
            have a0 := fun k => hap k hn'
            have a1 : ∀ k : Res, app0K PG .fail 22 (.pv (.rows [])) (.pv (nss N)) k = .fail := fun k => by rw [← zss_zof]; exact p0_no hn'
            rw [zvs_zof] at *
            simp [awake_ev, h8, hr', hm, h9, a0, a1, hap1, h92, hix', hi0, htk, hsm, e0, e1]
    · have hr' : (100 : Int) < r.length := by omega
      simp [awake_ev, h8, hr']
end

theorem fill4_ev (x nds : PV) (n : Nat) (hn : n ≤ 100000) : ∀ (m i : Nat), i + m = n →
    ev (q4b0a (iv (i : Int)) (iv n) x nds (zvs (List.replicate i (-1) ++ List.replicate m 0))) = some (0, [zvs (List.replicate n (-1)), x, nds])
  | 0, i, hi => by
    have hk : ¬ (i : Int) < n := by omega
    have : i = n := by omega
    subst this
    refine Evl.of ?_
    rw [h4b0a, g4b0a]
    simp [hk]
  | m + 1, i, hi => by
    have hk : (i : Int) < n := by omega
    have e0 := wr (n := i) (by omega)
    have ih := fill4_ev x nds n hn m (i + 1) (by omega)
    rw [c1] at ih e0
    have hx : (List.replicate i (-1 : Int) ++ List.replicate (m + 1) 0)[i]? = some 0 := by
      rw [List.getElem?_append_right (by simp)]; simp
    have hset := fun kp => setK_r1 (d := Res.fail) (k := kp) (e := iv) iv_ns (l := List.replicate i (-1 : Int) ++ List.replicate (m + 1) 0) (i := i) (x := -1) (by simp)
    have hs2 : (List.replicate i (-1 : Int) ++ List.replicate (m + 1) 0).set i (-1) = List.replicate (i + 1) (-1) ++ List.replicate m 0 := by
      rw [List.set_append_right _ _ (by simp)]
      simp [List.replicate_succ, List.replicate_succ', List.append_assoc]
      have : ∀ (i : Nat) (l : List Int), List.replicate i (-1 : Int) ++ (-1 :: l) = -1 :: (List.replicate i (-1) ++ l) := by
        intro i
        induction i with
        | zero => intro l; rfl
        | succ i ih => intro l; rw [List.replicate_succ, List.cons_append, ih]; rfl
      rw [this]
    rw [hs2] at hset
    refine Evl.of ?_
    rw [h4b0a, g4b0a]
    generalize List.replicate i (-1 : Int) ++ List.replicate (m + 1) 0 = row at *
    generalize List.replicate (i + 1) (-1 : Int) ++ List.replicate m 0 = row2 at *
    simp only [← zvs_eq] at hset
    simp [hk, idx_zvs hx, hset, e0, ih]
/-! Each thing's group. -/
def fillG : List (List Nat) → Nat → List (Option Nat) → List (Option Nat)
  | [], _, A => A
  | g :: gs, u, A => fillG gs (u + 1) (setAll g u A)
structure PreG (n : Nat) (gs : List (List Nat)) (A : List (Option Nat)) : Prop where
  len : A.length = n
  el : ∀ g ∈ gs, g.Nodup ∧ g.length ≤ 1000000000 ∧ ∀ k ∈ g, k < n ∧ A.getD k none = none
  dis : gs.Pairwise fun a b => ∀ x, x ∈ a → x ∉ b
theorem PreG.next {n : Nat} {g : List Nat} {gs : List (List Nat)} {A : List (Option Nat)} (h : PreG n (g :: gs) A) (u : Nat) : PreG n gs (setAll g u A) := by
  obtain ⟨h1, h2⟩ := List.pairwise_cons.1 h.dis
  refine ⟨by rw [setAll_len]; exact h.len, fun g' hg' => ?_, h2⟩
  obtain ⟨a, b, c⟩ := h.el g' (List.mem_cons_of_mem _ hg')
  refine ⟨a, b, fun k hk => ⟨(c k hk).1, ?_⟩⟩
  rw [setAll_at, if_neg (fun e => h1 g' hg' k e.1 hk)]
  exact (c k hk).2
theorem fillG_len : ∀ (gs : List (List Nat)) (u : Nat) (A : List (Option Nat)), (fillG gs u A).length = A.length
  | [], _, _ => rfl
  | g :: gs, u, A => by rw [fillG, fillG_len gs, setAll_len]
theorem fillG_not : ∀ (gs : List (List Nat)) (u : Nat) (A : List (Option Nat)) (x : Nat), (∀ g ∈ gs, x ∉ g) → (fillG gs u A).getD x none = A.getD x none
  | [], _, _, _, _ => rfl
  | g :: gs, u, A, x, h => by
    rw [fillG, fillG_not gs _ _ x (fun g' hg' => h g' (List.mem_cons_of_mem _ hg')), setAll_at, if_neg (fun e => h g (List.mem_cons_self ..) e.1)]
theorem fillG_at {n : Nat} : ∀ (gs : List (List Nat)) (u : Nat) (A : List (Option Nat)), PreG n gs A → ∀ (v : Nat) (g : List Nat) (x : Nat), gs[v]? = some g → x ∈ g → (fillG gs u A).getD x none = some (u + v)
  | [], u, A, h, v, g, x, hv, hx => by simp at hv
  | g0 :: gs, u, A, h, v, g, x, hv, hx => by
    obtain ⟨h1, h2⟩ := List.pairwise_cons.1 h.dis
    rw [fillG]
    cases v with
    | zero =>
      simp at hv
      subst hv
      rw [fillG_not gs _ _ x (fun g' hg' => h1 g' hg' x hx), setAll_at, if_pos ⟨hx, by rw [h.len]; exact ((h.el g0 (List.mem_cons_self ..)).2.2 x hx).1⟩]
      rfl
    | succ v =>
      rw [fillG_at gs (u + 1) _ (h.next u) v g x (by simpa using hv) hx]
      congr 1
      omega
theorem mark4_in (n : Nat) (hn : n ≤ 100000) (g : List Nat) (hg : g.length ≤ 1000000000) (u : Nat) (x y z w : PV) : ∀ (m : List Nat) (j : Nat) (A : List (Option Nat)), g.drop j = m → A.length = n → m.Nodup → (∀ k ∈ m, k < n ∧ A.getD k none = none) →
    ev (q4b4a (iv (j : Int)) (iv g.length) (nvs g) (iv u) x y z w (ovs A)) = some (1, [ovs (setAll m u A), x, y, z, w])
  | [], j, A, hd, hA, hnd, hm => by
    have hj : ¬ (j : Int) < g.length := by have := congrArg List.length hd; simp at this; omega
    refine Evl.of ?_
    rw [h4b4a, g4b4a]
    simp [hj, setAll]
  | k :: m, j, A, hd, hA, hnd, hm => by
    have hx : g[j]? = some k := by have := congrArg List.head? hd; rwa [List.head?_drop] at this
    have hj : (j : Int) < g.length := by have := (List.getElem?_eq_some_iff.1 hx).1; omega
    have hd' : g.drop (j + 1) = m := by rw [← List.drop_drop, hd]; rfl
    obtain ⟨hk1, hk2⟩ := hm k (List.mem_cons_self ..)
    obtain ⟨hn1, hn2⟩ := List.nodup_cons.1 hnd
    have hA' : (A.set k (some u)).length = n := by rw [List.length_set]; exact hA
    have ih := mark4_in n hn g hg u x y z w m (j + 1) (A.set k (some u)) hd' hA' hn2 (fun q hq => by
      have h1 := hm q (List.mem_cons_of_mem _ hq)
      refine ⟨h1.1, ?_⟩
      have hne : ¬ (k = q ∧ k < A.length) := fun e => hn1 (e.1 ▸ hq)
      rw [getD_set, if_neg hne]; exact h1.2)
    have e0 := wr (n := j) (by omega)
    rw [c1] at ih e0
    have hak : A[k]? = some none := at_ofO hk2 (by omega)
    have hset := fun kp => set_ovs (d := Res.fail) (kp := kp) (l := A) (i := k) (x := u) (by omega)
    have hneg : ¬ (k : Int) < 0 := by omega
    have hlt : ¬ (A.length : Int) ≤ k := by omega
    have hs : setAll (k :: m) u A = setAll m u (A.set k (some u)) := rfl
    refine Evl.of ?_
    rw [h4b4a, g4b4a, hs]
    simp [hj, idx_nvs hx, hneg, hlt, idx_ovs hak, eO, hset, e0, ih]
theorem mark4_out (n : Nat) (hn : n ≤ 100000) (G : List (List Nat)) (hG : G.length ≤ 1000000000) (nds : PV) : ∀ (m : List (List Nat)) (u : Nat) (A : List (Option Nat)), G.drop u = m → PreG n m A →
    ev (q4b2a (iv (u : Int)) (iv G.length) (nss G) nds (ovs A)) = some (1, [ovs (fillG m u A), nds])
  | [], u, A, hd, h => by
    have hj : ¬ (u : Int) < G.length := by have := congrArg List.length hd; simp at this; omega
    refine Evl.of ?_
    rw [h4b2a, g4b2a]
    simp [hj, fillG]
  | g :: m, u, A, hd, h => by
    have hx : G[u]? = some g := by have := congrArg List.head? hd; rwa [List.head?_drop] at this
    have hj : (u : Int) < G.length := by have := (List.getElem?_eq_some_iff.1 hx).1; omega
    have hd' : G.drop (u + 1) = m := by rw [← List.drop_drop, hd]; rfl
    obtain ⟨h1, h2, h3⟩ := h.el g (List.mem_cons_self ..)
    have ih := mark4_out n hn G hG nds m (u + 1) (setAll g u A) hd' (h.next u)
    have e0 := wr (n := u) (by omega)
    rw [c1] at ih e0
    have hin := mark4_in n hn g h2 u (iv (u : Int)) (iv G.length) (nss G) nds g 0 A rfl h.len h1 h3
    simp only [Int.natCast_zero, Int.ofNat_zero] at hin
    refine Evl.of ?_
    rw [h4b2a, g4b2a, fillG]
    simp [hj, idx_nss hx, hin, e0, ih]
/-! What it needs, and its group. -/
structure FinG (N : List (List Nat)) (A : List (Option Nat)) : Prop where
  len : A.length = N.length
  some : ∀ i, i < N.length → ∃ u, A.getD i none = some u
  le : ∀ i u, A.getD i none = Option.some u → ∀ k ∈ nd N i, ∃ v, A.getD k none = Option.some v ∧ v ≤ u
  one : ∀ i k u, A.getD i none = Option.some u → A.getD k none = Option.some u → i < N.length → k < N.length → k ≠ i → RB N i k = true
theorem back_in {N : List (List Nat)} (hB : Bnd N) {A : List (Option Nat)} (h : FinG N A) {i : Nat} (hi : i < N.length) (x y z w : PV) : ∀ (m : List Nat) (j : Nat), (nd N i).drop j = m →
    ev (q4b8a (iv (j : Int)) (iv (nd N i).length) (nvs (nd N i)) (iv i) x y z w (ovs A)) = some (1, [ovs A, iv i, x, y, z, w])
  | [], j, hd => by
    have hj : ¬ (j : Int) < (nd N i).length := by have := congrArg List.length hd; simp at this; simp; omega
    refine Evl.of ?_
    rw [h4b8a, g4b8a]
    generalize nd N i = row at *
    simp [hj]
  | k :: m, j, hd => by
    have hx : (nd N i)[j]? = some k := by have := congrArg List.head? hd; rwa [List.head?_drop] at this
    have hj0 := (List.getElem?_eq_some_iff.1 hx).1
    have hj : (j : Int) < (nd N i).length := by omega
    have hd' : (nd N i).drop (j + 1) = m := by rw [← List.drop_drop, hd]; rfl
    have ih := back_in hB h hi x y z w m (j + 1) hd'
    have e0 := wr (n := j) (by have := (need_at hB hi).2; omega)
    rw [c1] at ih e0
    have hkm := List.mem_of_getElem? hx
    have hk := hB.rng.at i k hkm
    obtain ⟨u, hu⟩ := h.some i hi
    obtain ⟨v, hv, hle⟩ := h.le i u hu k hkm
    have hau := at_ofO hu (by rw [h.len]; exact hi)
    have hav := at_ofO hv (by rw [h.len]; exact hk)
    have hle' : ¬ (u : Int) < v := by omega
    refine Evl.of ?_
    rw [h4b8a, g4b8a]
    generalize nd N i = row at *
    simp [hj, idx_nvs hx, idx_ovs hau, idx_ovs hav, eO, hle', e0, ih]
theorem back_one {N : List (List Nat)} (hB : Bnd N) {A : List (Option Nat)} (h : FinG N A) {i : Nat} (hi : i < N.length) (x y z : PV) : ∀ (m k : Nat), N.length - k = m →
    ev (q4b10a (iv (k : Int)) (iv N.length) (iv i) (bsr (rbRows N)) x y z (ovs A)) = some (1, [ovs A, x, y, z, bsr (rbRows N)])
  | 0, k, hm => by
    have hk : ¬ (k : Int) < N.length := by omega
    refine Evl.of ?_
    rw [h4b10a, g4b10a]
    simp [hk]
  | m + 1, k, hm => by
    have hkn : k < N.length := by omega
    have hk : (k : Int) < N.length := by omega
    have ih := back_one hB h hi x y z m (k + 1) (by omega)
    have hl := hB.len
    have e0 := wr (n := k) (by omega)
    rw [c1] at ih e0
    obtain ⟨u, hu⟩ := h.some i hi
    obtain ⟨v, hv⟩ := h.some k hkn
    have hau := at_ofO hu (by rw [h.len]; exact hi)
    have hav := at_ofO hv (by rw [h.len]; exact hkn)
    refine Evl.of ?_
    rw [h4b10a, g4b10a]
    by_cases he : v = u
    · subst he
      by_cases hki : k = i
      · subst hki
        simp [hk, idx_ovs hau, idx_ovs hav, eO, e0, ih]
      · have hki' : ¬ (k : Int) = i := by omega
        have hrb := h.one i k v hu hv hi hkn hki
        have h2 := rb_at2 (N := N) (i := i) hkn
        rw [hrb] at h2
        simp [hk, idx_ovs hau, idx_ovs hav, eO, hki, hki', idx_bsr (rb_at hi), idx_bvr h2, e0, ih]
    · have he' : ¬ (v : Int) = u := by omega
      simp [hk, idx_ovs hau, idx_ovs hav, eO, he, he', e0, ih]
theorem back_out {N : List (List Nat)} (hB : Bnd N) {A : List (Option Nat)} (h : FinG N A) : ∀ (m i : Nat), N.length - i = m →
    ev (q4b6a (iv (i : Int)) (iv N.length) (nss N) (bsr (rbRows N)) (ovs A)) = some (1, [ovs A])
  | 0, i, hm => by
    have hk : ¬ (i : Int) < N.length := by omega
    refine Evl.of ?_
    rw [h4b6a, g4b6a]
    simp [hk]
  | m + 1, i, hm => by
    have hin : i < N.length := by omega
    have hk : (i : Int) < N.length := by omega
    have ih := back_out hB h m (i + 1) (by omega)
    have hl := hB.len
    have e0 := wr (n := i) (by omega)
    rw [c1] at ih e0
    obtain ⟨u, hu⟩ := h.some i hin
    have hau := at_ofO hu (by rw [h.len]; exact hin)
    have h1 := back_in hB h hin (bsr (rbRows N)) (iv (i : Int)) (iv N.length) (nss N) (nd N i) 0 rfl
    have h2 := back_one hB h hin (iv (i : Int)) (iv N.length) (nss N) N.length 0 (by omega)
    have hrow := (need_at hB hin).1
    have hneg : ¬ (u : Int) < 0 := by omega
    have hAl : A.length = N.length := h.len
    simp only [Int.natCast_zero, Int.ofNat_zero] at h1 h2
    refine Evl.of ?_
    rw [h4b6a, g4b6a]
    generalize nd N i = row at *
    simp [hk, idx_ovs hau, eO, hneg, idx_nss hrow, h1, hAl, h2, e0, ih]
theorem fin_of {N : List (List Nat)} (hr : Rng N) (hl : N.length ≤ 100000) : PreG N.length (groupsR N) (List.replicate N.length none) ∧ FinG N (fillG (groupsR N) 0 (List.replicate N.length none)) := by
  obtain ⟨cr, h, hc⟩ := groupsR_outs hr
  have hpre : PreG N.length (groupsR N) (List.replicate N.length none) := by
    refine ⟨by simp, fun g hg => ?_, ?_⟩
    · obtain ⟨a, _, rfl⟩ := h.grp g hg
      refine ⟨List.Pairwise.sublist List.filter_sublist (List.nodup_range), by have := grpR_len (N := N) a; omega, fun k hk => ⟨(grpR_mem.1 hk).1, getD_rep _ _ _ rfl k⟩⟩
    · rw [List.pairwise_iff_getElem]
      intro u v hu hv huv x hxu hxv
      have := h.one u v _ _ x (List.getElem?_eq_getElem hu) (List.getElem?_eq_getElem hv) hxu hxv
      omega
  have hat := fillG_at (groupsR N) 0 _ hpre
  have hex : ∀ i, i < N.length → ∃ (u : Nat) (g : List Nat), (groupsR N)[u]? = some g ∧ i ∈ g := fun i hi => by
    obtain ⟨g, hg, hig⟩ := (h.come i hi).1 (hc i hi)
    obtain ⟨u, hu, e⟩ := List.getElem_of_mem hg
    exact ⟨u, g, by rw [List.getElem?_eq_getElem hu, e], hig⟩
  have hA : ∀ i u, (fillG (groupsR N) 0 (List.replicate N.length none)).getD i none = some u → i < N.length → ∃ g, (groupsR N)[u]? = some g ∧ i ∈ g := fun i u hu hi => by
    obtain ⟨v, g, h1, h2⟩ := hex i hi
    have := hat v g i h1 h2
    rw [hu] at this
    have hv : u = 0 + v := Option.some.inj this
    rw [Nat.zero_add] at hv
    exact ⟨g, hv ▸ h1, h2⟩
  have hin : ∀ i u, (fillG (groupsR N) 0 (List.replicate N.length none)).getD i none = some u → i < N.length := fun i u hu => by
    apply Decidable.byContradiction
    intro hn
    rw [List.getD_eq_getElem?_getD, List.getElem?_eq_none (by rw [fillG_len]; simp; omega)] at hu
    cases hu
  refine ⟨hpre, ⟨by rw [fillG_len]; simp, fun i hi => ?_, fun i u hu k hk => ?_, fun i k u hu hv hi hk hne => ?_⟩⟩
  · obtain ⟨v, g, h1, h2⟩ := hex i hi
    exact ⟨_, hat v g i h1 h2⟩
  · obtain ⟨g, h1, h2⟩ := hA i u hu (hin i u hu)
    obtain ⟨v, gv, h3, h4, h5⟩ := h.ord u g i h1 h2 k hk
    exact ⟨v, by rw [hat v gv k h3 h4, Nat.zero_add], h5⟩
  · obtain ⟨g, h1, h2⟩ := hA i u hu hi
    obtain ⟨g', h3, h4⟩ := hA k u hv hk
    rw [h1] at h3
    cases h3
    obtain ⟨a, ha, rfl⟩ := h.grp g (List.mem_of_getElem? h1)
    have hik := tog_tr hr hi ha hk (tog_sym hr ha hi (grpR_mem.1 h2).2) (grpR_mem.1 h4).2
    unfold tog at hik
    have hb : (i == k) = false := by simp; omega
    rw [hb] at hik
    simp at hik
    exact hik.1
theorem back_ev (l : List (List Int)) (hl : l.length ≤ 9223372036854775807) : ev (q4 (zss l)) = some (0, [bv true]) := by
  have h8 := small_ev l hl
  refine Evl.of ?_
  rw [h4, g4]
  cases hb : smlB l with
  | false =>
    rw [hb] at h8
    simp [awake_ev, h8]
  | true =>
    rw [hb] at h8
    obtain ⟨hs, hl40⟩ := smlB_sml hb
    cases ho : okNeeds l with
    | false =>
      have h9 := groups_bad hs ho
      simp [awake_ev, h8, h9]
    | true =>
      obtain ⟨N, rfl, hr⟩ := needs_nat ho
      have h9 := groups_ok hs hr
      have hB := hs.bnd hr
      have hbl := hB.len
      obtain ⟨hpre, hfin⟩ := fin_of hr hbl
      have hmk := fun kp => mk_nvs (d := Res.fail) (kp := kp) (n := N.length) (by omega)
      have hfill := fill4_ev (gOut (groupsR N)) (nss N) N.length (by omega) N.length 0 (by omega)
      rw [show List.replicate 0 (-1 : Int) ++ List.replicate N.length 0 = List.replicate N.length 0 from rfl, ← nvs_zero, ovs_none] at hfill
      have hgl := (groupsR_len hr).1
      have hout := mark4_out N.length hbl (groupsR N) (by omega) (nss N) (groupsR N) 0 _ rfl hpre
      have hrch := rch_ev hs hr
      have hbk := back_out hB hfin N.length 0 (by omega)
      have hAl := hfin.len
      simp only [Int.natCast_zero, Int.ofNat_zero] at hfill hout hbk
      rw [zss_zof] at h8 ⊢
      by_cases hG : groupsR N = []
      · have hgo : gOut (groupsR N) = nS := if_pos hG
        rw [hgo] at h9 hfill
        have hN : N = [] := Decidable.byContradiction fun h => groupsR_ne hr h hG
        subst hN
        simp only [List.length_nil, Int.natCast_zero, Int.ofNat_zero, List.replicate_zero, groupsR_nil, fillG] at *
        have h2b : ev (q4b2a (iv 0) (iv 0) nS (nss []) (ovs [])) = some (1, [ovs [], nss []]) := Evl.of (by
          rw [h4b2a, g4b2a]; simp)
        simp [awake_ev, h8, h9, hmk, hfill, h2b, hrch, hbk]
      · have hgo : gOut (groupsR N) = nss (groupsR N) := if_neg hG
        rw [hgo] at h9 hfill
        simp [awake_ev, h8, h9, hmk, hfill, hout, hrch, hAl, hbk]
end Go.Proofs.Ytkfdklocgpgbfaa
