/- Joined texts. -/
import Derived.Shelf.Sort.Plain
import Derived.Ground.Names2Prog
import Derived.Shelf.Slices.CompactI
import Derived.Shelf.Slices.In.SortNone
import Derived.Test.YtnepapfndihalaaProg
import Derived.Test.YtnepapfndihalaaBc
import Derived.Lib.SlicesCompact
set_option linter.unusedVariables false
set_option linter.unusedSimpArgs false
set_option linter.unusedSectionVars false
namespace Go.Proofs
open Go.Shelf
def Try.lays189_ren : Go.Shelf.Ren := ⟨fun | 189 => 23 | 125 => 38 | 257 => 37 | 128 => 55 | 129 => 56 | 294 => 46 | 295 => 47 | 296 => 48 | 297 => 49 | 298 => 50 | 299 => 51 | 216 => 52 | 300 => 53 | 301 => 54 | 328 => 59 | 329 => 60 | 330 => 61 | 331 => 62 | 332 => 63 | 215 => 64 | 343 => 66 | n => n, fun | 28 => 55 | 3 => 3 | 46 => 74 | 0 => 0 | 51 => 89 | 53 => 91 | 4 => 4 | 183 => 81 | 182 => 80 | 131 => 86 | 5 => 5 | 9 => 9 | 218 => 93 | 222 => 67 | 228 => 100 | 229 => 101 | n => n, fun | n => n⟩
theorem Try.lays189 : Go.Proofs.Lays.n189 Try.prog Try.lays189_ren := {
  mixed := by kernel_rfl
  f125 := Try.func38.trans (congrArg some (by kernel_rfl))
  f128 := Try.func55.trans (congrArg some (by kernel_rfl))
  f129 := Try.func56.trans (congrArg some (by kernel_rfl))
  f189 := Try.func23.trans (congrArg some (by kernel_rfl))
  f215 := Try.func64.trans (congrArg some (by kernel_rfl))
  f216 := Try.func52.trans (congrArg some (by kernel_rfl))
  f257 := Try.func37.trans (congrArg some (by kernel_rfl))
  f294 := Try.func46.trans (congrArg some (by kernel_rfl))
  f295 := Try.func47.trans (congrArg some (by kernel_rfl))
  f296 := Try.func48.trans (congrArg some (by kernel_rfl))
  f297 := Try.func49.trans (congrArg some (by kernel_rfl))
  f298 := Try.func50.trans (congrArg some (by kernel_rfl))
  f299 := Try.func51.trans (congrArg some (by kernel_rfl))
  f300 := Try.func53.trans (congrArg some (by kernel_rfl))
  f301 := Try.func54.trans (congrArg some (by kernel_rfl))
  f328 := Try.func59.trans (congrArg some (by kernel_rfl))
  f329 := Try.func60.trans (congrArg some (by kernel_rfl))
  f330 := Try.func61.trans (congrArg some (by kernel_rfl))
  f331 := Try.func62.trans (congrArg some (by kernel_rfl))
  f332 := Try.func63.trans (congrArg some (by kernel_rfl))
  f343 := Try.func66.trans (congrArg some (by kernel_rfl))
  t0 := Try.underlying0
  a0 := Try.isAgg0
  z0 := Try.sizeOf0
  v0 := Try.zeroValue0
  t3 := Try.underlying3
  a3 := Try.isAgg3
  z3 := Try.sizeOf3
  v3 := Try.zeroValue3
  t4 := Try.underlying4
  a4 := Try.isAgg4
  z4 := Try.sizeOf4
  v4 := Try.zeroValue4
  t5 := Try.underlying5
  a5 := Try.isAgg5
  z5 := Try.sizeOf5
  v5 := Try.zeroValue5
  t9 := Try.underlying9
  a9 := Try.isAgg9
  z9 := Try.sizeOf9
  v9 := Try.zeroValue9
  t28 := Try.underlying55
  a28 := Try.isAgg55
  z28 := Try.sizeOf55
  v28 := Try.zeroValue55
  t46 := Try.underlying74
  a46 := Try.isAgg74
  z46 := Try.sizeOf74
  v46 := Try.zeroValue74
  t51 := Try.underlying89
  a51 := Try.isAgg89
  z51 := Try.sizeOf89
  v51 := Try.zeroValue89
  t53 := Try.underlying91
  a53 := Try.isAgg91
  z53 := Try.sizeOf91
  v53 := Try.zeroValue91
  t131 := Try.underlying86
  a131 := Try.isAgg86
  z131 := Try.sizeOf86
  v131 := Try.zeroValue86
  t182 := Try.underlying80
  a182 := Try.isAgg80
  z182 := Try.sizeOf80
  v182 := Try.zeroValue80
  t183 := Try.underlying81
  a183 := Try.isAgg81
  z183 := Try.sizeOf81
  v183 := Try.zeroValue81
  t218 := Try.underlying93
  a218 := Try.isAgg93
  z218 := Try.sizeOf93
  v218 := Try.zeroValue93
  t222 := Try.underlying67
  a222 := Try.isAgg67
  z222 := Try.sizeOf67
  v222 := Try.zeroValue67
  t228 := Try.underlying100
  a228 := Try.isAgg100
  z228 := Try.sizeOf100
  v228 := Try.zeroValue100
  t229 := Try.underlying101
  a229 := Try.isAgg101
  z229 := Try.sizeOf101
  v229 := Try.zeroValue101 }
open Go.Sort Go.RowKit in
theorem Try.slices_Sort_int (blk off cap : Nat) (zs : List Int) (w : World) (hH : Holds (Value.int .i64) w blk off zs.toArray) (hblk : blk < w.heap.size) (hsz : zs.length < 4611686018427387904) :
    Calls Try.prog 23 #[.slice (some ⟨blk, off, none⟩) zs.length cap] w fun e w' =>
      e = .returned (.tuple #[]) ∧ ∃ n os, w' = grow (putRow (Value.int .i64) (Sort.ahead w n) blk off (zs.mergeSort fun x y => decide (x ≤ y)).toArray) os := Any.slices_Sort_int Try.lays189 blk off cap zs w hH hblk hsz
def Try.laysNm220_ren : Go.Shelf.Ren := ⟨fun | 20 => 24 | n => n, fun | 22 => 55 | 3 => 3 | 4 => 4 | 0 => 0 | n => n, fun | n => n⟩
theorem Try.laysNm220 : Go.Proofs.Lays2.n20 Try.prog Try.laysNm220_ren := {
  mixed := by kernel_rfl
  f20 := Try.func24.trans (congrArg some (by kernel_rfl))
  t0 := Try.underlying0
  a0 := Try.isAgg0
  z0 := Try.sizeOf0
  v0 := Try.zeroValue0
  t3 := Try.underlying3
  a3 := Try.isAgg3
  z3 := Try.sizeOf3
  v3 := Try.zeroValue3
  t4 := Try.underlying4
  a4 := Try.isAgg4
  z4 := Try.sizeOf4
  v4 := Try.zeroValue4
  t22 := Try.underlying55
  a22 := Try.isAgg55
  z22 := Try.sizeOf55
  v22 := Try.zeroValue55
  i3 := by kernel_rfl }
open Go.RowKit Go.Lib Go.Sort in
/-- slices.Compact at []int: "Compact replaces consecutive runs of equal elements with a single copy. This is like the uniq command found on Unix. Compact modifies the contents of the slice s and returns the modified slice, which may have a smaller length. Compact zeroes the elements between the new length and the original length. The result preserves the nilness of s.": IT RETURNS THE SLICE CUT TO 'Lib.compact zs'; ITS CELLS HOLD 'Lib.compact zs', THEN ZERO VALUES up to the old length; all else is as it was, but for the count of draws. IN THE WORDS OF slices.Sort's CONTRACT ('Holds', 'putRow'): so the everyday 'slices.Sort(xs); xs = slices.Compact(xs)' goes from the one contract to the other. It asks 'zs.length ≤ cap' (every slice's: the reslicing 's[:k]' looks at it). Length 0, nil: '.._empty'. (LAID: no walk: one application.) -/
theorem Try.slices_Compact_int (blk off cap : Nat) (zs : List Int) (w : World) (hH : Holds (Value.int .i64) w blk off zs.toArray) (hsz : zs.length ≤ 9223372036854775807) (hcap : zs.length ≤ cap) :
    Calls Try.prog 24 #[.slice (some ⟨blk, off, none⟩) zs.length cap] w fun e w' => e = .returned (.slice (some ⟨blk, off, none⟩) (Lib.compact zs).length cap) ∧ ∃ q, w' = putRow (Value.int .i64) (Sort.ahead w q) blk off (Lib.compact zs ++ List.replicate (zs.length - (Lib.compact zs).length) 0).toArray := Any.slices_Compact_int Try.laysNm220 blk off cap zs w hH hsz hcap
open Go.RowKit Go.Lib Go.Sort in
/-- The same at a slice of length 0, a nil one too: it comes back as it is. (LAID: no walk: one application.) -/
theorem Try.slices_Compact_int_empty (a : Option Addr) (cap : Nat) (w : World) :
    Calls Try.prog 24 #[.slice a 0 cap] w fun e w' => e = .returned (.slice a 0 cap) ∧ w' = w := Any.slices_Compact_int_empty Try.laysNm220 a cap w
open Go.RowKit Go.Sort in
/-- .. and plain. (LAID: no walk: one application.) -/
theorem Try.slices_Sort_int_none (p : Option Addr) (cap : Nat) (w : World) :
    Calls Try.prog 23 #[.slice p 0 cap] w fun e w' => e = .returned (.tuple #[]) ∧ w' = w := Any.slices_Sort_int_none Try.lays189 p cap w
end Go.Proofs
namespace Go.Proofs.Ytnepapfndihalaa
open Go.RowKit
def intsOf : List (List PV) → Option (List Int)
  | [] => some []
  | [.lit (.int .i64 n)] :: l => match intsOf l with
    | some r => some (n :: r)
    | none => none
  | _ :: _ => none
def ivs (l : List Int) : List (List PV) := l.map fun n => [.lit (.int .i64 n)]
def sortZ (l : List Int) : List Int := l.mergeSort fun x y => decide (x ≤ y)
/-- Of neighbours that are one, the first. -/
def compZ (l : List Int) : List Int := Lib.compact l
def awkP : List PV → Option Rs
  | [] => some (0, [.lit (.bool true)])
  | _ => none
def srtP : List PV → Option Rs
  | [.rows []] => some (0, [])
  | _ => none
def srtA : List PV → Option Rs
  | [.rows es] => match intsOf es with
    | some l => if l.length ≤ 1000000000 then some (0, [.rows (ivs (sortZ l))]) else none
    | none => none
  | _ => none
def cmpP : List PV → Option Rs
  | [.rows []] => some (0, [.rows []])
  | _ => none
def cmpA : List PV → Option Rs
  | [.rows es] => match intsOf es with
    | some l => some (0, [.rows (ivs (compZ l))])
    | none => none
  | _ => none
theorem intsOf_ivs : ∀ l : List Int, intsOf (ivs l) = some l
  | [] => rfl
  | n :: l => by
    show intsOf ([.lit (.int .i64 n)] :: ivs l) = _
    rw [intsOf, intsOf_ivs l]
theorem ivs_of : ∀ {es : List (List PV)} {l : List Int}, intsOf es = some l → es = ivs l
  | [], l, h => by cases h; rfl
  | c :: es, l, h => by
    unfold intsOf at h
    split at h
    · rename_i e; cases e
    · rename_i n l' e
      cases e
      split at h
      · rename_i r hr
        cases h
        rw [ivs_of hr]; rfl
      · cases h
    · cases h

theorem WR.grow {K : Kn} {h : List AObj} {w w' : World} (H : WR K h w) (hf : Frm (fun _ => False) w w') : WR K h w' where
  fresh := H.fresh
  has := H.has
  lt := fun i g hi => Nat.lt_of_lt_of_le (H.lt i g hi) hf.size
  box := fun i ty cells hi => let ⟨g, cs, a, b, c, d⟩ := H.box i ty cells hi; ⟨g, cs, a, by rw [hf.block g (H.lt i g a) id]; exact b, c, d⟩
  map := fun i ks vs hi => let ⟨g, e, c, a, b, d⟩ := H.map i ks vs hi; ⟨g, e, c, a, by rw [hf.block g (H.lt i g a) id]; exact b, d⟩
  tok := fun t ty sz len hi => let ⟨g, cs, a, b, c⟩ := H.tok t ty sz len hi; ⟨g, cs, a, by rw [hf.block g (H.lt t g a) id]; exact b, c⟩
  inj := H.inj
  apart := H.apart
  agr := fun g o v hm => by
    have h1 := H.agr g o v hm
    have hg : g < w.heap.size := by
      apply Decidable.byContradiction
      intro hn
      have : w.heap[g]? = Option.none := Array.getElem?_eq_none (by omega)
      unfold World.cell? at h1
      rw [this] at h1
      cases h1
    rw [← h1]
    exact World.cell?_of_block (hf.block g hg id)
  arr := fun i ty sz p hi => let ⟨g, cs, a, b, c⟩ := H.arr i ty sz p hi; ⟨g, cs, a, by rw [hf.block g (H.lt i g a) id]; exact b, c⟩
theorem Step.grow {K : Kn} {h : List AObj} {w w' : World} (H : WR K h w) (hf : Frm (fun _ => False) w w') : Step K h w K h w' :=
  ⟨H.grow hf, Ext.refl K, hf.mono (fun _ _ e => e.elim), fun _ _ => ⟨rfl, rfl⟩, fun _ _ _ _ => rfl, fun _ _ h => .inl h, fun _ h _ => h, Nat.le_refl _⟩
theorem frm_grow (w : World) (os : Array Obj) (n : Nat) : Frm (fun _ => False) w (Sort.grow (Sort.ahead w n) os) :=
  ⟨rfl, rfl, rfl, by simp [Sort.grow, Sort.ahead], fun k hk _ => by
    show ((Sort.ahead w n).heap ++ os)[k]? = _
    rw [Array.getElem?_append_left (by exact hk)]; rfl⟩
/-- An array of numbers. -/
abbrev arrI (l : List Int) : List AObj := [.arr 3 1 (.rows (ivs l))]
theorem nss_ivs (l : List Int) : nsPss (ivs l) = true := by
  unfold ivs
  induction l with
  | nil => rfl
  | cons n l ih => rw [List.map_cons, nsPss, ih]; rfl
theorem arr_of {K : Kn} {l : List Int} {w : World} (W : WR K (arrI l) w) : ∃ g cs, K.mu 0 = some g ∧ w.heap[g]? = some (.cells cs 3 (0, 0)) ∧ cs.size = K.Z g ∧ K.Z g ≤ maxLen ∧ K.E g = 1 ∧ l.length = K.N 0 ∧ l.length ≤ K.Z g ∧
    (∀ o, K.M g o = none) ∧ ∀ j, (hj : j < l.length) → cs[j]? = some (.int .i64 l[j]) := by
  obtain ⟨g, cs, hm, hw, ⟨hs, hZ⟩, hr⟩ := W.arr 0 3 1 (.rows (ivs l)) rfl
  obtain ⟨es, he, hns, hlen, hle, hel, hcell⟩ := hr.row
  have hes : es = ivs l := by
    have : openPV K.R (.rows (ivs l)) = .rows (ivs l) := openPV_id _ _ (show nsPss (ivs l) = true from nss_ivs l)
    rw [this] at he
    injection he with he
    exact he.symm
  subst hes
  have hl : (ivs l).length = l.length := by simp [ivs]
  have hE := hr.el
  refine ⟨g, cs, hm, hw, by rw [hs, hE, Nat.mul_one], hZ, hE, by omega, by omega, hr.none, fun j hj => ?_⟩
  obtain ⟨v, h1, h2⟩ := hcell j (by omega) 0 (by simp [ivs])
  rw [hE, Nat.mul_one, Nat.add_zero] at h1
  rw [h1]
  have h3 : (ivs l)[j][0]'(by simp [ivs]) = .lit (.int .i64 l[j]) := by simp [ivs]
  rw [h3] at h2
  cases h2
  rfl
theorem holds_of {l : List Int} {w : World} {g : Nat} {cs : Array Value} (hw : w.heap[g]? = some (.cells cs 3 (0, 0))) (hc : ∀ j, (hj : j < l.length) → cs[j]? = some (.int .i64 l[j])) : Sort.Holds (Value.int .i64) w g 0 l.toArray := fun j hj => by
  have hj' : j < l.length := by simpa using hj
  constructor
  · unfold World.cell?
    simp only [hw]
    rw [Nat.zero_add, hc j hj']
    simp [getElem!_pos, hj']
  · unfold World.frozen?
    simp only [hw]
    simp
/-- The row's cells hold other numbers now. -/
theorem step_row {K : Kn} {l m : List Int} {w : World} (W : WR K (arrI l) w) (hlen : m.length = l.length) {g : Nat} (hm : K.mu 0 = some g) (n : Nat) : Step K (arrI l) w K (arrI m) (Sort.putRow (Value.int .i64) (Sort.ahead w n) g 0 m.toArray) := by
  obtain ⟨g', cs, hm', hw, hs, hZ, hE, hN, hle, hM, hc⟩ := arr_of W
  rw [hm] at hm'
  cases hm'
  have hblk : (Sort.putRow (Value.int .i64) (Sort.ahead w n) g 0 m.toArray).heap[g]? = some (.cells (Sort.putCells (Value.int .i64) 0 m.toArray cs) 3 (0, 0)) := by
    unfold Sort.putRow Sort.mapBlock
    simp only [Array.getElem?_modify, if_true]
    show (w.heap[g]?).map _ = _
    rw [hw]; rfl
  have hoth : ∀ k, k ≠ g → (Sort.putRow (Value.int .i64) (Sort.ahead w n) g 0 m.toArray).heap[k]? = w.heap[k]? := fun k hk => by
    unfold Sort.putRow Sort.mapBlock
    simp only [Array.getElem?_modify, if_neg (Ne.symm hk)]
    rfl
  have hsz : (Sort.putRow (Value.int .i64) (Sort.ahead w n) g 0 m.toArray).heap.size = w.heap.size := by simp [Sort.putRow, Sort.mapBlock, Sort.ahead]
  have hcz : (Sort.putCells (Value.int .i64) 0 m.toArray cs).size = cs.size := by simp [Sort.putCells]
  refine Step.store W 0 (.arr 3 1 (.rows (ivs l))) (.arr 3 1 (.rows (ivs m))) g rfl rfl rfl hm ⟨_, hblk, ⟨by rw [hcz, hE, Nat.mul_one]; exact hs, hZ⟩, ⟨hE, hM, ivs m, openPV_id _ _ (show nsPss (ivs m) = true from nss_ivs m), nss_ivs m, by simp [ivs]; omega, by simp [ivs]; omega, fun k hk => by simp [ivs, hE], fun k hk j hj => ?_⟩⟩ hM
    ⟨rfl, rfl, rfl, by rw [hsz]; exact Nat.le_refl _, fun k _ hk => hoth k hk⟩ hsz hoth
  have hj0 : j = 0 := by simp [ivs] at hj; omega
  subst hj0
  have hk' : k < m.length := by simpa [ivs] using hk
  refine ⟨.int .i64 m[k], ?_, ?_⟩
  · rw [hE, Nat.mul_one, Nat.add_zero]
    unfold Sort.putCells
    rw [Array.getElem?_mapIdx, hc k (by omega)]
    simp [hk', getElem!_pos]
  · have h3 : (ivs m)[k][0]'(by simp [ivs]) = .lit (.int .i64 m[k]) := by simp [ivs]
    rw [h3]
    exact .lit _ rfl
theorem vl_one {K : Kn} {a : AV} {us : List Value} (h : VL K [a] us) : ∃ v, us = [v] ∧ VR K a v := by
  obtain ⟨h1, h2⟩ := h
  cases us with
  | nil => cases h1
  | cons v l =>
    cases l with
    | nil => exact ⟨v, rfl, h2 0 (by simp) (by simp)⟩
    | cons => simp at h1
theorem rows_nil {R : Nat → PV} {M : Nat → Nat → Option Value} {v : Value} (h : PR R M (.rows []) v) : ∃ a cap, v = .slice a 0 cap := by
  generalize he : PV.rows [] = p at h
  cases h with
  | rows es a cap g off sz us ha hn hsz hc hr => cases he; exact ⟨a, cap, rfl⟩
  | _ => cases he
theorem sem_sort0 : Sem Try.prog 23 [.pv (.rows [])] [] (.tup []) [] := fun R K w us hR W hv => by
  obtain ⟨v, rfl, hv2⟩ := vl_one hv
  cases hv2 with
  | pv hp =>
    obtain ⟨a, cap, rfl⟩ := rows_nil hp
    refine (Try.slices_Sort_int_none a cap w).mono fun e w' ⟨he, hw⟩ => ?_
    subst he hw
    exact ⟨K, ⟨_, rfl, .tup [] [] rfl (fun i hi => absurd hi (by simp))⟩, Step.refl W⟩
theorem sem_comp0 : Sem Try.prog 24 [.pv (.rows [])] [] (.pv (.rows [])) [] := fun R K w us hR W hv => by
  obtain ⟨v, rfl, hv2⟩ := vl_one hv
  cases hv2 with
  | pv hp =>
    obtain ⟨a, cap, rfl⟩ := rows_nil hp
    refine (Try.slices_Compact_int_empty a cap w).mono fun e w' ⟨he, hw⟩ => ?_
    subst he hw
    exact ⟨K, ⟨_, rfl, .pv hp⟩, Step.refl W⟩
theorem sem_sort (l : List Int) (hl : l.length ≤ 1000000000) : Sem Try.prog 23 [.arr 0] (arrI l) (.tup []) (arrI (sortZ l)) := fun R K w us hR W hv => by
  obtain ⟨v, rfl, hv2⟩ := vl_one hv
  obtain ⟨g, cs, hm, hw, hs, hZ, hE, hN, hle, hM, hc⟩ := arr_of W
  cases hv2 with
  | arr t g' cap hm' hn hz =>
    rw [hm] at hm'
    cases hm'
    rw [← hN]
    refine (Try.slices_Sort_int g 0 cap l w (holds_of hw hc) (W.lt 0 g hm) (by omega)).mono fun e w' ⟨he, n, os, hw'⟩ => ?_
    subst he hw'
    have s1 := step_row (m := sortZ l) W (by unfold sortZ; exact List.length_mergeSort _) hm n
    have s2 := Step.grow s1.wr (frm_grow _ os 0)
    exact ⟨K, ⟨_, rfl, .tup [] [] rfl (fun i hi => absurd hi (by simp))⟩, s1.trans s2⟩
theorem sem_comp (l : List Int) : Sem Try.prog 24 [.arr 0] (arrI l) (.pv (.rows (ivs (compZ l)))) [.dead] := fun R K w us hR W hv => by
  obtain ⟨v, rfl, hv2⟩ := vl_one hv
  obtain ⟨g, cs, hm, hw, hs, hZ, hE, hN, hle, hM, hc⟩ := arr_of W
  cases hv2 with
  | arr t g' cap hm' hn hz =>
    rw [hm] at hm'
    cases hm'
    rw [← hN]
    refine (Try.slices_Compact_int g 0 cap l w (holds_of hw hc) (by unfold maxLen at hZ; omega) (by omega)).mono fun e w' ⟨he, n, hw'⟩ => ?_
    subst he hw'
    have hcl : (compZ l).length ≤ l.length := by
      unfold compZ Lib.compact Lib.compactUpTo
      rw [List.length_map]
      exact Nat.le_trans (List.length_filter_le _ _) (by simp)
    change (Lib.compact l).length ≤ l.length at hcl
    have hml : (Lib.compact l ++ List.replicate (l.length - (Lib.compact l).length) (0 : Int)).length = l.length := by simp; omega
    have s1 := step_row (m := Lib.compact l ++ List.replicate (l.length - (Lib.compact l).length) 0) W hml hm n
    obtain ⟨g1, cs1, hm1, hw1, hs1, hZ1, hE1, hN1, hle1, hM1, hc1⟩ := arr_of s1.wr
    rw [hm] at hm1
    cases hm1
    obtain ⟨K', s2, m1, m2, m3, m4⟩ := Step.putArr s1.wr (h1 := [.dead]) 3 1 (.rows (ivs (Lib.compact l))) g (K.Z g) cs1 (ivs (Lib.compact l)) (openPV_id _ _ (show nsPss (ivs (Lib.compact l)) = true from nss_ivs _)) (nss_ivs _) hw1 (by omega) hZ1 (by simp [ivs]; omega) (fun k hk => by simp [ivs])
      (fun k hk j hj => by
        have hj0 : j = 0 := by simp [ivs] at hj; omega
        subst hj0
        have hk' : k < (Lib.compact l).length := by simpa [ivs] using hk
        refine ⟨.int .i64 (Lib.compact l)[k], ?_, ?_⟩
        · rw [Nat.mul_one, Nat.add_zero, hc1 k (by rw [hml]; omega)]
          rw [List.getElem_append_left hk']
        · have h3 : (ivs (Lib.compact l))[k][0]'(by simp [ivs]) = .lit (.int .i64 (Lib.compact l)[k]) := by simp [ivs]
          rw [h3]
          exact .lit _ rfl)
      (s1.wr.lt 0 g hm) (Frm.refl _ _) hM1 rfl (fun j x hj hl => by
        cases j with
        | zero => cases hj; cases hl
        | succ j => simp at hj) (fun _ _ => ⟨rfl, hE1⟩) (.inr ⟨0, _, rfl, rfl, hm⟩)
    have hlen1 : (arrI (Lib.compact l ++ List.replicate (l.length - (Lib.compact l).length) (0 : Int))).length = 1 := rfl
    rw [hlen1] at m1 m2
    have hva : VR K' (.arr 1) (.slice (some ⟨g, 0, none⟩) (Lib.compact l).length cap) := by
      have h4 : K'.N 1 = (Lib.compact l).length := by rw [m2]; simp [ivs]
      have := VR.arr (K := K') 1 g cap m1 (by rw [h4]; omega) (by rw [m3]; omega)
      rw [h4] at this
      exact this
    have hblt : Nat.blt (ivs (Lib.compact l)).length symBase = true := by
      rw [Nat.blt_eq]
      unfold symBase
      unfold maxLen at hZ
      simp [ivs]; omega
    have hfz : frz1 1 ([AObj.dead] ++ [.arr 3 1 (.rows (ivs (Lib.compact l)))]) = some (.pv (.rows (ivs (Lib.compact l))), [.dead, .dead, .tok 3 1 (ivs (Lib.compact l)).length]) := by
      show (match Nat.blt (ivs (Lib.compact l)).length symBase with | true => _ | false => _) = _
      rw [hblt]; rfl
    obtain ⟨K2, s3, hv3⟩ := frz1_sound s2.wr hva hfz
    have hst := (s1.trans s2).trans s3
    obtain ⟨f, K3, f1, f2, f3⟩ := finish_sound W hst (v := .pv (.rows (ivs (Lib.compact l)))) (v' := .pv (.rows (ivs (Lib.compact l)))) (hs := [.dead]) (by rfl)
    exact ⟨K3, EndR.ren f1 (show EndR K2 (.pv (.rows (ivs (Lib.compact l)))) _ from ⟨_, rfl, hv3⟩) f2, f3⟩
/-! The entries that are known from elsewhere. -/
section
variable {P : Program} {S : Nat → List Shape} {E : Nat → Ent} {T : Nat → Et} {k m : Nat}
theorem ext_srtP (hE : E k = { f := 23, args := [.pv (.sym 0)], n := 1, fam := m }) (hS : S m = [{ v := .tup [], m := 0 }]) (hT : T k = .ext srtP) : RuleOk Try.prog S E T k := by
  refine RuleOk.ext (by rw [hE]) hT fun l r hp hr => ?_
  unfold srtP at hr
  split at hr
  · cases hr
    refine ⟨?_, ?_, ?_, ?_, ?_⟩
    · unfold SemQ shp
      simp only [hE, hS]
      exact sem_sort0
    · simp only [hE, hS]; decide
    · simp only [hE, hS]; rfl
    · intro p hp; simp at hp
    · simp only [hE, hS]
      exact fun i hi => by cases hi
  · cases hr
theorem ext_cmpP (hE : E k = { f := 24, args := [.pv (.sym 0)], n := 1, fam := m }) (hS : S m = [{ v := .pv (.sym 0), m := 1 }]) (hT : T k = .ext cmpP) : RuleOk Try.prog S E T k := by
  refine RuleOk.ext (by rw [hE]) hT fun l r hp hr => ?_
  unfold cmpP at hr
  split at hr
  · cases hr
    refine ⟨?_, ?_, ?_, ?_, ?_⟩
    · unfold SemQ shp
      simp only [hE, hS]
      exact sem_comp0
    · simp only [hE, hS]; decide
    · simp only [hE, hS]; rfl
    · intro p hp
      rw [List.mem_singleton.1 hp]
      exact .rows _ fun c hc => absurd hc (by simp)
    · simp only [hE, hS]
      exact fun i hi => by cases hi
  · cases hr
theorem ns_ivs (l : List Int) : NS (.rows (ivs l)) := .rows _ fun c hc p hp => by
  obtain ⟨n, _, rfl⟩ := List.mem_map.1 hc
  rw [List.mem_singleton.1 hp]
  exact .lit _
theorem ext_srtA (hE : E k = { f := 23, args := [.arr 0], h := [.arr 3 1 (.sym 0)], n := 1, fam := m }) (hS : S m = [{ v := .tup [], h := [.arr 3 1 (.sym 0)], m := 1 }]) (hT : T k = .ext srtA) : RuleOk Try.prog S E T k := by
  refine RuleOk.ext (by rw [hE]) hT fun l r hp hr => ?_
  unfold srtA at hr
  split at hr
  · rename_i es
    split at hr
    · rename_i zs hz
      split at hr
      · rename_i hlen
        cases hr
        rw [ivs_of hz]
        refine ⟨?_, ?_, ?_, ?_, ?_⟩
        · unfold SemQ shp
          simp only [hE, hS]
          exact sem_sort zs hlen
        · simp only [hE, hS]; decide
        · simp only [hE, hS]; rfl
        · intro p hp
          rw [List.mem_singleton.1 hp]
          exact ns_ivs _
        · simp only [hE, hS]
          exact fun i hi => by cases hi
      · cases hr
    · cases hr
  · cases hr
theorem ext_cmpA (hE : E k = { f := 24, args := [.arr 0], h := [.arr 3 1 (.sym 0)], n := 1, fam := m }) (hS : S m = [{ v := .pv (.sym 0), h := [.dead], m := 1 }]) (hT : T k = .ext cmpA) : RuleOk Try.prog S E T k := by
  refine RuleOk.ext (by rw [hE]) hT fun l r hp hr => ?_
  unfold cmpA at hr
  split at hr
  · rename_i es
    split at hr
    · rename_i zs hz
      cases hr
      rw [ivs_of hz]
      refine ⟨?_, ?_, ?_, ?_, ?_⟩
      · unfold SemQ shp
        simp only [hE, hS]
        exact sem_comp zs
      · simp only [hE, hS]; decide
      · simp only [hE, hS]; rfl
      · intro p hp
        rw [List.mem_singleton.1 hp]
        exact ns_ivs _
      · simp only [hE, hS]
        exact fun i hi => by cases hi
    · cases hr
  · cases hr
theorem ext_awk (ha : Sem Try.prog 5 [] [] (.pv (.lit (.bool true))) []) (hE : E k = { f := 5, args := [], n := 0, fam := m }) (hS : S m = [{ v := .pv (.sym 0), m := 1 }]) (hT : T k = .ext awkP) : RuleOk Try.prog S E T k := by
  refine RuleOk.ext (by rw [hE]) hT fun l r hp hr => ?_
  unfold awkP at hr
  split at hr
  · cases hr
    refine ⟨?_, ?_, ?_, ?_, ?_⟩
    · unfold SemQ shp
      simp only [hE, hS]
      exact ha
    · simp only [hE, hS]; decide
    · simp only [hE, hS]; rfl
    · intro p hp
      rw [List.mem_singleton.1 hp]
      exact .lit _
    · simp only [hE, hS]
      exact fun i hi => by cases hi
  · cases hr
end
end Go.Proofs.Ytnepapfndihalaa
