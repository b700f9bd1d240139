/- Joined texts. -/
import Derived.Shelf.Sort.Plain
import Derived.Ground.Names2Prog
import Derived.Shelf.Slices.In.SortNone
import Derived.Shelf.SlIterI.Sorted
import Derived.Ground.GgzProg
import Derived.Test.YtkfdklocgpgbfaaProg
import Derived.Test.YtkfdklocgpgbfaaBc
import Derived.RangeFuncFrom
import Derived.TacticsInMore
import Derived.RegionIn
import Derived.LoopNIn
import Derived.LoopIn
set_option linter.unusedVariables false
set_option linter.unusedSimpArgs false
set_option linter.unusedSectionVars false
namespace Go.Proofs
open Go.Shelf
def Try.lays189_ren : Go.Shelf.Ren := ⟨fun | 189 => 37 | 125 => 50 | 257 => 49 | 128 => 61 | 129 => 62 | 294 => 52 | 295 => 53 | 296 => 54 | 297 => 55 | 298 => 56 | 299 => 57 | 216 => 58 | 300 => 59 | 301 => 60 | 328 => 63 | 329 => 64 | 330 => 65 | 331 => 66 | 332 => 67 | 215 => 68 | 343 => 69 | n => n, fun | 28 => 31 | 3 => 3 | 46 => 87 | 0 => 0 | 51 => 99 | 53 => 101 | 4 => 4 | 183 => 91 | 182 => 90 | 131 => 96 | 5 => 5 | 9 => 9 | 218 => 102 | 222 => 106 | 228 => 108 | 229 => 109 | n => n, fun | n => n⟩
theorem Try.lays189 : Go.Proofs.Lays.n189 Try.prog Try.lays189_ren := {
  mixed := by kernel_rfl
  f125 := Try.func50.trans (congrArg some (by kernel_rfl))
  f128 := Try.func61.trans (congrArg some (by kernel_rfl))
  f129 := Try.func62.trans (congrArg some (by kernel_rfl))
  f189 := Try.func37.trans (congrArg some (by kernel_rfl))
  f215 := Try.func68.trans (congrArg some (by kernel_rfl))
  f216 := Try.func58.trans (congrArg some (by kernel_rfl))
  f257 := Try.func49.trans (congrArg some (by kernel_rfl))
  f294 := Try.func52.trans (congrArg some (by kernel_rfl))
  f295 := Try.func53.trans (congrArg some (by kernel_rfl))
  f296 := Try.func54.trans (congrArg some (by kernel_rfl))
  f297 := Try.func55.trans (congrArg some (by kernel_rfl))
  f298 := Try.func56.trans (congrArg some (by kernel_rfl))
  f299 := Try.func57.trans (congrArg some (by kernel_rfl))
  f300 := Try.func59.trans (congrArg some (by kernel_rfl))
  f301 := Try.func60.trans (congrArg some (by kernel_rfl))
  f328 := Try.func63.trans (congrArg some (by kernel_rfl))
  f329 := Try.func64.trans (congrArg some (by kernel_rfl))
  f330 := Try.func65.trans (congrArg some (by kernel_rfl))
  f331 := Try.func66.trans (congrArg some (by kernel_rfl))
  f332 := Try.func67.trans (congrArg some (by kernel_rfl))
  f343 := Try.func69.trans (congrArg some (by kernel_rfl))
  t0 := Try.underlying0
  a0 := Try.isAgg0
  z0 := Try.sizeOf0
  v0 := Try.zeroValue0
  t3 := Try.underlying3
  a3 := Try.isAgg3
  z3 := Try.sizeOf3
  v3 := Try.zeroValue3
  t4 := Try.underlying4
  a4 := Try.isAgg4
  z4 := Try.sizeOf4
  v4 := Try.zeroValue4
  t5 := Try.underlying5
  a5 := Try.isAgg5
  z5 := Try.sizeOf5
  v5 := Try.zeroValue5
  t9 := Try.underlying9
  a9 := Try.isAgg9
  z9 := Try.sizeOf9
  v9 := Try.zeroValue9
  t28 := Try.underlying31
  a28 := Try.isAgg31
  z28 := Try.sizeOf31
  v28 := Try.zeroValue31
  t46 := Try.underlying87
  a46 := Try.isAgg87
  z46 := Try.sizeOf87
  v46 := Try.zeroValue87
  t51 := Try.underlying99
  a51 := Try.isAgg99
  z51 := Try.sizeOf99
  v51 := Try.zeroValue99
  t53 := Try.underlying101
  a53 := Try.isAgg101
  z53 := Try.sizeOf101
  v53 := Try.zeroValue101
  t131 := Try.underlying96
  a131 := Try.isAgg96
  z131 := Try.sizeOf96
  v131 := Try.zeroValue96
  t182 := Try.underlying90
  a182 := Try.isAgg90
  z182 := Try.sizeOf90
  v182 := Try.zeroValue90
  t183 := Try.underlying91
  a183 := Try.isAgg91
  z183 := Try.sizeOf91
  v183 := Try.zeroValue91
  t218 := Try.underlying102
  a218 := Try.isAgg102
  z218 := Try.sizeOf102
  v218 := Try.zeroValue102
  t222 := Try.underlying106
  a222 := Try.isAgg106
  z222 := Try.sizeOf106
  v222 := Try.zeroValue106
  t228 := Try.underlying108
  a228 := Try.isAgg108
  z228 := Try.sizeOf108
  v228 := Try.zeroValue108
  t229 := Try.underlying109
  a229 := Try.isAgg109
  z229 := Try.sizeOf109
  v229 := Try.zeroValue109 }
open Go.Sort Go.RowKit in
theorem Try.slices_Sort_int (blk off cap : Nat) (zs : List Int) (w : World) (hH : Holds (Value.int .i64) w blk off zs.toArray) (hblk : blk < w.heap.size) (hsz : zs.length < 4611686018427387904) :
    Calls Try.prog 37 #[.slice (some ⟨blk, off, none⟩) zs.length cap] w fun e w' =>
      e = .returned (.tuple #[]) ∧ ∃ n os, w' = grow (putRow (Value.int .i64) (Sort.ahead w n) blk off (zs.mergeSort fun x y => decide (x ≤ y)).toArray) os := Any.slices_Sort_int Try.lays189 blk off cap zs w hH hblk hsz
open Go.RowKit Go.Sort in
/-- .. and plain. (LAID: no walk: one application.) -/
theorem Try.slices_Sort_int_none (p : Option Addr) (cap : Nat) (w : World) :
    Calls Try.prog 37 #[.slice p 0 cap] w fun e w' => e = .returned (.tuple #[]) ∧ w' = w := Any.slices_Sort_int_none Try.lays189 p cap w
def Try.sortedA_ren : Go.Shelf.Ren := ⟨fun | 6 => 27 | 8 => 36 | 9 => 37 | 11 => 48 | 13 => 50 | 12 => 49 | 23 => 61 | 24 => 62 | 14 => 52 | 15 => 53 | 16 => 54 | 17 => 55 | 18 => 56 | 19 => 57 | 20 => 58 | 21 => 59 | 22 => 60 | 25 => 63 | 26 => 64 | 27 => 65 | 28 => 66 | 29 => 67 | 30 => 68 | 31 => 69 | n => n, fun | 26 => 3 | 28 => 63 | 24 => 31 | 0 => 0 | 3 => 3 | 37 => 87 | 48 => 99 | 50 => 101 | 4 => 4 | 40 => 91 | 39 => 90 | 45 => 96 | 5 => 5 | 9 => 9 | 51 => 102 | 55 => 106 | 57 => 108 | 58 => 109 | 33 => 80 | n => n, fun | n => n⟩
theorem Try.sortedA : Go.Proofs.SlLaysZI.n6 Try.prog Try.sortedA_ren := {
  mixed := by kernel_rfl
  f6 := ⟨Try.f27.name, by decide, Try.func27.trans (congrArg some (by kernel_rfl))⟩
  f8 := ⟨Try.f36.name, by decide, Try.func36.trans (congrArg some (by kernel_rfl))⟩
  f11 := ⟨Try.f48.name, by decide, Try.func48.trans (congrArg some (by kernel_rfl))⟩
  t0 := Try.underlying0
  a0 := Try.isAgg0
  z0 := Try.sizeOf0
  v0 := Try.zeroValue0
  t24 := Try.underlying31
  a24 := Try.isAgg31
  z24 := Try.sizeOf31
  v24 := Try.zeroValue31
  t26 := Try.underlying3
  a26 := Try.isAgg3
  z26 := Try.sizeOf3
  v26 := Try.zeroValue3
  t28 := Try.underlying63
  a28 := Try.isAgg63
  z28 := Try.sizeOf63
  v28 := Try.zeroValue63
  i26 := by kernel_rfl }
end Go.Proofs
namespace Go.Proofs.Ytkfdklocgpgbfaa
open Go.RowKit
def intsOf : List (List PV) → Option (List Int)
  | [] => some []
  | [.lit (.int .i64 n)] :: l => match intsOf l with
    | some r => some (n :: r)
    | none => none
  | _ :: _ => none
def ivs (l : List Int) : List (List PV) := l.map fun n => [.lit (.int .i64 n)]
def sortZ (l : List Int) : List Int := l.mergeSort fun x y => decide (x ≤ y)
def awkP : List PV → Option Rs
  | [] => some (0, [.lit (.bool true)])
  | _ => none
/-- slices.Sorted(slices.Values(s)), s a cut of an array. -/
def srtV : List PV → Option Rs
  | [.lit (.int .i64 a), .rows qs, .rows es] => match intsOf es with
    | some l => if 0 ≤ a ∧ l.length ≤ 1000000 ∧ a.toNat + qs.length ≤ l.length then some (0, [.lit (.int .i64 a), .rows qs, .rows es, .rows (ivs (sortZ ((l.drop a.toNat).take qs.length)))]) else none
    | none => none
  | _ => none
def rowsOfInts : List (List PV) → Option (List (List Int))
  | [] => some []
  | [.rows es] :: l => match intsOf es, rowsOfInts l with
    | some r, some rs => some (r :: rs)
    | _, _ => none
  | _ :: _ => none
def iss (l : List (List Int)) : List (List PV) := l.map fun r => [.rows (ivs r)]
def bvs (l : List Bool) : List (List PV) := l.map fun b => [.lit (.bool b)]
def bss (l : List (List Bool)) : List (List PV) := l.map fun r => [.rows (bvs r)]
/-- Is k needed by i? -/
def needB (needs : List (List Int)) (i k : Nat) : Bool := (needs.getD i []).elem (k : Int)
def stepB (n m : Nat) (r : Nat → Nat → Bool) : Nat → Nat → Bool := fun i k => r i k || (decide (i < n) && decide (k < n) && (r i m && r m k))
/-- One thing more may stand on the way. -/
def reachB (n : Nat) (needs : List (List Int)) : Nat → Nat → Nat → Bool
  | 0 => fun i k => needB needs i k
  | m + 1 => stepB n m (reachB n needs m)
def okNeeds (needs : List (List Int)) : Bool := needs.all fun l => l.all fun k => decide (0 ≤ k) && decide (k < (needs.length : Int))
def reachRows (needs : List (List Int)) : List (List Bool) := (List.range needs.length).map fun i => (List.range needs.length).map fun k => reachB needs.length needs needs.length i k
def rchP : List PV → Option Rs
  | [.rows es] => match rowsOfInts es with
    | some needs => if okNeeds needs = true ∧ needs.length ≤ 100000 ∧ (needs.all fun l => decide (l.length ≤ 1000000000)) = true then some (0, [.rows (bss (reachRows needs))]) else none
    | none => none
  | _ => none
theorem intsOf_ivs : ∀ l : List Int, intsOf (ivs l) = some l
  | [] => rfl
  | n :: l => by
    show intsOf ([.lit (.int .i64 n)] :: ivs l) = _
    rw [intsOf, intsOf_ivs l]
theorem ivs_of : ∀ {es : List (List PV)} {l : List Int}, intsOf es = some l → es = ivs l
  | [], l, h => by cases h; rfl
  | c :: es, l, h => by
    unfold intsOf at h
    split at h
    · rename_i e; cases e
    · rename_i n l' e
      cases e
      split at h
      · rename_i r hr
        cases h
        rw [ivs_of hr]; rfl
      · cases h
    · cases h
theorem rowsOf_iss : ∀ l : List (List Int), rowsOfInts (iss l) = some l
  | [] => rfl
  | r :: l => by
    show rowsOfInts ([.rows (ivs r)] :: iss l) = _
    rw [rowsOfInts, intsOf_ivs, rowsOf_iss l]
theorem iss_of : ∀ {es : List (List PV)} {l : List (List Int)}, rowsOfInts es = some l → es = iss l
  | [], l, h => by cases h; rfl
  | c :: es, l, h => by
    unfold rowsOfInts at h
    split at h
    · rename_i e; cases e
    · rename_i x l' e
      cases e
      split at h
      · rename_i r rs hr hrs
        cases h
        rw [ivs_of hr, iss_of hrs]; rfl
      · cases h
    · cases h
end Go.Proofs.Ytkfdklocgpgbfaa
namespace Go.Proofs.Ytkfdklocgpgbfaa
open Go.RowKit Go.Maps Go.Sort Go.Shelf
attribute [local go_sem] Oper.semAt_some

/-- A slice's cells. -/
structure SlAt (w : World) (Bx g off cap : Nat) (zs : List Int) : Prop where
  bx : Bx < w.heap.size
  gl : g < w.heap.size
  box : w.cell? ⟨Bx, 0, none⟩ = some (.slice (some ⟨g, off, none⟩) zs.length cap)
  at_ : ∀ j (h : j < zs.length), w.cell? ⟨g, off + j, none⟩ = some (.int .i64 zs[j])
theorem SlAt.below {w w' : World} {Bx g off cap : Nat} {zs : List Int} (h : SlAt w Bx g off cap zs) (hb : Below w.heap.size w w') : SlAt w' Bx g off cap zs :=
  ⟨Nat.lt_of_lt_of_le h.bx hb.size, Nat.lt_of_lt_of_le h.gl hb.size, (hb.cell (p := ⟨Bx, 0, none⟩) h.bx).trans h.box, fun j hj => (hb.cell (p := ⟨g, off + j, none⟩) h.gl).trans (h.at_ j hj)⟩
set_option maxRecDepth 100000 in
set_option maxHeartbeats 1000000 in
/-- The iterator over a slice: all its elements come, in their order, so the rounds leave the slice as it is. -/
theorem vals_stops (F : Fence) (n : Nat) (hF : F.fn 38) (hro : F.round = none) (hn : 1 ≤ n) (Bx g off cap : Nat) (zs : List Int) (hz : zs.length ≤ 1000000) (w0 : World) (n0 : Nat) (hbx : Bx < n0) (hg : g < n0) (h : SlAt w0 Bx g off cap zs) :
    SeqStopsK F n Try.prog 38 #[.pointer (some ⟨Bx, 0, none⟩)] (fun x => #[encZ x]) (Below n0) (fun xs => xs = zs) (fun _ => True) zs.length w0 := fun l J Jx W hW hJ hJx hY h0 => by
  have h1 := h.below hW
  have hbox := h1.box
  have hzc : zs.length < 9000000000000000000 := by omega
  refine callsIn_of_wp Try.func38 rfl hF ?_ hro
  simp only [Try.ntmps38, List.size_toArray, List.length_cons, List.length_nil, Nat.reduceAdd, Nat.reduceSub, Array.replicate_succ, Array.replicate_zero, List.push_toArray, List.append_toArray, List.nil_append, List.cons_append]
  gi_wp2
  gi_loopw [7] (fun a wr => ∃ k : Nat, a = .int .i64 (k : Int) ∧ k ≤ zs.length ∧ J (zs.take k) wr ∧ Below n0 W wr) (fun a _ => match a with | .int _ k => zs.length - k.toNat | _ => 0)
  case atStart => exact ⟨0, rfl, Nat.zero_le _, h0, Below.refl _ _⟩
  case round =>
    obtain ⟨k, rfl, hk, hJk, hb⟩ := hrel
    by_cases hkz : k < zs.length
    · have hkz' : (k : Int) < zs.length := by omega
      have hck : wr.cell? ⟨g, off + k, none⟩ = some (.int .i64 zs[k]) := (hb.cell (p := ⟨g, off + k, none⟩) hg).trans (h1.at_ k hkz)
      have htk : zs.take k ++ [zs[k]] = zs.take (k + 1) := by rw [List.take_add_one, List.getElem?_eq_getElem hkz]; rfl
      obtain ⟨fn, tmps, assign, body, hy, hR⟩ := hY (zs.take k) zs[k] wr hJk (by rw [List.length_take]; omega)
      unfold encZ at hy
      gi_wp2
      refine hR.mono ?_
      rintro e W3 (⟨rfl, hJ3, hk3⟩ | ⟨rfl, hJ3⟩)
      · gi_wp2
        rw [htk] at hJ3
        go_roundw
        case rel => exact ⟨k + 1, by simp, by omega, hJ3, hb.trans hk3⟩
        case measure => simp; omega
      · gi_wp2
        exact bodyPost_ret (v := .tuple #[]) (by simp [results, Try.results38, go_sem]) rfl ⟨⟨_, rfl⟩, .inr ⟨_, trivial, hJ3⟩⟩
    · have hkz' : ¬ (k : Int) < zs.length := by omega
      have : k = zs.length := by omega
      subst this
      rw [List.take_length] at hJk
      gi_wp2
      go_end0
      exact ⟨⟨_, rfl⟩, .inl hJk⟩
theorem info3 : (Try.prog.info? 3).map (fun i => (i.zero, i.size, i.bytes)) = some (some (.int .i64 0), 1, 8) := by kernel_rfl
/-- What has come, in the box. -/
def InBox (w : World) (pre : List Int) (W : World) : Prop := ∃ v, W.heap[w.heap.size]? = some (.cells #[v] 31 (0, 0)) ∧ W.ownsRow (w.heap.size + 1) 3 1 v pre.length (pre.map encZ)
set_option maxRecDepth 100000 in
set_option maxHeartbeats 2000000 in
theorem apps_in (F : Fence) (n : Nat) (h48 : F.fn 48) (h38 : F.fn 38) (hro : F.round = none) (hn : 2 ≤ n) (Bx g off cap : Nat) (zs : List Int) (hz : zs.length ≤ 1000000) (w : World) (h : SlAt w Bx g off cap zs) :
    CallsIn F n Try.prog 48 #[.slice none 0 0, .func (.func 38) #[] #[.pointer (some ⟨Bx, 0, none⟩)]] w fun e w' => ∃ v, e = .returned v ∧ w'.ownsRow (w.heap.size + 1) 3 1 v zs.length (zs.map encZ) ∧ Below w.heap.size w w' := by
  have h1 : 1 ≤ n := by omega
  obtain ⟨i0, hi, hz0, hz1, hz2⟩ := info_parts info3
  have hA := (Below.refl w.heap.size w).alloc (Nat.le_refl _) (.cells #[.slice none 0 0] 31)
  refine callsIn_of_wp_marks Try.func48 rfl h48 ?_ hro
  simp only [Try.ntmps48, List.size_toArray, List.length_cons, List.length_nil, Nat.reduceAdd, Nat.reduceSub, Array.replicate_succ, Array.replicate_zero, List.push_toArray, List.append_toArray, List.nil_append, List.cons_append]
  gi_wp2
  refine wpIn_rangeFunc_ownF (α := Int) hro h1 (gf := 38) (lb := #[.pointer (some ⟨Bx, 0, none⟩)]) rfl h38 (enters_of Try.func38 (by kernel_rfl) rfl)
    (vals_stops F (n - 1) h38 hro (by omega) Bx g off cap zs hz _ w.heap.size h.bx h.gl (h.below hA)) belowK_t (belowK_b (by simp)) (Below.refl _ _) (fun _ => rfl)
    (fun pre W => InBox w pre W ∧ Below w.heap.size w W) (fun _ _ _ => False) ?hI
    (fun _ _ _ _ _ hs _ _ => hs) ?h0
    (fun x => { tmps := #[.slice none 0 0, .func (.func 38) #[] #[.pointer (some ⟨Bx, 0, none⟩)], .pointer (some ⟨w.heap.size, 0, none⟩), undef, .slice none 0 0, .int .i64 x, .func (.func 38) #[] #[.pointer (some ⟨Bx, 0, none⟩)], .int .i64 x, undef, undef, undef, undef, undef], defers := [] }) ?assign ?body ?done ?stop
  case hI =>
    rintro s W W' row ⟨⟨v, hv, ho⟩, hb⟩ hg hr
    refine ⟨⟨v, (hg.block _ (Array.getElem?_eq_some_iff.1 hv).1 (fun e => ?_)).trans hv, ho.kept hg ?_⟩, hb.grown hg hb.size (fun k e => by have := (hr k e).1; simp at this; omega)⟩
    · obtain ⟨o, h1, h2⟩ := (hr _ e.symm).2
      rw [hv] at h1; cases h1; cases h2
    · rcases ho.2 with ⟨rfl, _⟩ | ⟨g', cap', cur, rfl, _, h3, _⟩
      · exact .inl rfl
      · right
        intro e
        obtain ⟨o, h1, h2⟩ := (hr g' e.symm).2
        rw [h3] at h1; cases h1; cases h2
  case h0 =>
    exact ⟨⟨_, heap_alloc_new w _, World.ownsRow_nil _ _ _ _⟩, hA⟩
  case assign =>
    intro l x W K hK
    gi_wp2
    exact hK
  case body =>
    rintro l pre x W ⟨⟨v, hv, ho⟩, hb⟩ hlen
    have hc : W.cell? ⟨w.heap.size, 0, none⟩ = some v := by simp [World.cell?, hv]
    have hf : W.frozen? ⟨w.heap.size, 0, none⟩ = false := by simp [World.frozen?, hv]
    have hlt := (Array.getElem?_eq_some_iff.1 hv).1
    gi_wp2_with (gi_at_builtin; refine wpListIn_append_own _ rfl _ _ 31 rfl (w.heap.size + 1) 3 i0 (.int .i64 0) 1 8 Try.underlying31 hi hz0 hz1 hz2 rfl (by decide) v pre.length (pre.map encZ) rfl (ho.alloc _) ⟨W.heap.size, 0, none⟩ 1 1 [encZ x] rfl rfl ?_ ?_ ?_ ?_ ?_ ?_)
    · intro j u hj
      cases j with
      | zero =>
        cases hj
        have h5 := heap_alloc_new W (.cells #[.int .i64 x] 3)
        have h6 : (W.alloc (.cells #[.int .i64 x] 3)).cell? ⟨W.heap.size, 0, none⟩ = some (.int .i64 x) := by unfold World.cell?; rw [h5]; rfl
        exact h6
      | succ j => simp at hj
    · intro u hu
      rw [List.mem_singleton.1 hu]; rfl
    · unfold maxLen; omega
    · omega
    · simp; omega
    · intro v' w3 hown' hgr hnil
      have hne : ∀ k, v.ownBlock = some k → w.heap.size + 1 ≤ k := fun k hk => (ho.lt k hk).1
      have hlt3 : w.heap.size < (W.alloc (.cells #[.int .i64 x] 3)).heap.size := by simp; omega
      have hv3 : w3.heap[w.heap.size]? = some (.cells #[v] 31 (0, 0)) := by
        rw [hgr.block _ hlt3 (fun e => by have := hne _ e.symm; omega)]
        exact (Below.heap_alloc W _ _ hlt).trans hv
      obtain ⟨g', cap', rfl⟩ : ∃ g' cap', v' = .slice (some ⟨g', 0, none⟩) (pre.length + 1) cap' := by
        rcases hown'.2 with ⟨_, h0⟩ | ⟨g', cap', _, hv, _⟩
        · omega
        · exact ⟨g', cap', hv⟩
      have hc3 : w3.cell? ⟨w.heap.size, 0, none⟩ = some v := by simp [World.cell?, hv3]
      have hf3 : w3.frozen? ⟨w.heap.size, 0, none⟩ = false := by simp [World.frozen?, hv3]
      have hk3 : KeepsOthers W w3 := (KeepsOthers.alloc W _).trans (KeepsOthers.of_grownBy hgr (fun j o hj ho' => by
        rcases ho.2 with ⟨rfl, _⟩ | ⟨g2, cap2, cur2, rfl, _, h3, _⟩
        · cases hj
        · cases hj
          have := (Below.heap_alloc W (.cells #[.int .i64 x] 3) g2 (Array.getElem?_eq_some_iff.1 h3).1).trans h3
          rw [this] at ho'
          cases ho'; rfl))
      have hb3 : Below w.heap.size W w3 := ((Below.refl w.heap.size W).alloc (by omega) _).grown hgr (by simp; omega) (fun k hk => by have := hne k hk; omega)
      have hg' : w.heap.size + 1 ≤ g' := (hown'.lt g' rfl).1
      clear hgr
      gi_wp2
      refine ⟨hk3.trans (KeepsOthers.setCell _ _ _), hb3.setCell (p := ⟨w.heap.size, 0, none⟩) (Nat.le_refl _) _, ⟨.slice (some ⟨g', 0, none⟩) (pre.length + 1) cap', heap_setCell_box_a _ hv3, ?_⟩, (hb.trans hb3).setCell (p := ⟨w.heap.size, 0, none⟩) (Nat.le_refl _) _⟩
      have := hown'.kept (grownBy_setCell0_a w3 w.heap.size (.slice (some ⟨g', 0, none⟩) (pre.length + 1) cap')) (.inr (by simp [Value.ownBlock]; omega))
      simpa using this
  case done =>
    rintro D ys W hD rfl ⟨⟨v, hv, ho⟩, hb⟩ hK
    have hc : W.cell? ⟨w.heap.size, 0, none⟩ = some v := by simp [World.cell?, hv]
    have hf : W.frozen? ⟨w.heap.size, 0, none⟩ = false := by simp [World.frozen?, hv]
    gi_wp2
    refine ⟨by simp, .inl ⟨_, _, rfl, run_takeDeferred hK, ?_⟩⟩
    simp at hD
    refine ⟨v, by simp [results, Try.results48, go_sem], v, rfl, ho.kept (grownBy_putObj' _ D (.deferred none)) ?_, hb.trans (belowK_b (w := w) (Nat.le_refl _) W D _ _ (by omega) hK rfl rfl)⟩
    rcases ho.2 with ⟨rfl, _⟩ | ⟨g', cap', cur, rfl, _, h3, _⟩
    · exact .inl rfl
    · right
      intro e
      cases e
      rw [hK] at h3; cases h3
  case stop =>
    rintro D c pre W _ _ h _
    exact h.elim
end Go.Proofs.Ytkfdklocgpgbfaa
namespace Go.Proofs.Ytkfdklocgpgbfaa
open Go.RowKit Go.Maps Go.Sort

theorem WR.grow {K : Kn} {h : List AObj} {w w' : World} (H : WR K h w) (hf : Frm (fun _ => False) w w') : WR K h w' where
  fresh := H.fresh
  has := H.has
  lt := fun i g hi => Nat.lt_of_lt_of_le (H.lt i g hi) hf.size
  box := fun i ty cells hi => let ⟨g, cs, a, b, c, d⟩ := H.box i ty cells hi; ⟨g, cs, a, by rw [hf.block g (H.lt i g a) id]; exact b, c, d⟩
  map := fun i ks vs hi => let ⟨g, e, c, a, b, d⟩ := H.map i ks vs hi; ⟨g, e, c, a, by rw [hf.block g (H.lt i g a) id]; exact b, d⟩
  tok := fun t ty sz len hi => let ⟨g, cs, a, b, c⟩ := H.tok t ty sz len hi; ⟨g, cs, a, by rw [hf.block g (H.lt t g a) id]; exact b, c⟩
  inj := H.inj
  apart := H.apart
  agr := fun g o v hm => by
    have h1 := H.agr g o v hm
    have hg : g < w.heap.size := by
      apply Decidable.byContradiction
      intro hn
      have : w.heap[g]? = Option.none := Array.getElem?_eq_none (by omega)
      unfold World.cell? at h1
      rw [this] at h1
      cases h1
    rw [← h1]
    exact World.cell?_of_block (hf.block g hg id)
  arr := fun i ty sz p hi => let ⟨g, cs, a, b, c⟩ := H.arr i ty sz p hi; ⟨g, cs, a, by rw [hf.block g (H.lt i g a) id]; exact b, c⟩
/-- New cells that are written no more: they are known from now on. -/
theorem Step.known {K : Kn} {h : List AObj} {w w' : World} (H : WR K h w) (hf : Frm (fun _ => False) w w') (M2 : Nat → Nat → Option Value) (h2 : ∀ g o v, M2 g o = some v → w.heap.size ≤ g ∧ w'.cell? ⟨g, o, none⟩ = some v) :
    ∃ K', Step K h w K' h w' ∧ K'.R = K.R ∧ (∀ g o v, M2 g o = some v → K'.M g o = some v) ∧ ∀ g o v, K.M g o = some v → K'.M g o = some v := by
  have hG := H.grow hf
  have hlow : ∀ g o, g < w.heap.size → M2 g o = none := fun g o hg => by
    cases hm : M2 g o with
    | none => rfl
    | some v => have := (h2 g o v hm).1; omega
  have hno : ∀ g o v, K.M g o = some v → g < w.heap.size := fun g o v hm => by
    apply Decidable.byContradiction
    intro hn
    have h1 := H.agr g o v hm
    have : w.heap[g]? = none := Array.getElem?_eq_none (by omega)
    unfold World.cell? at h1
    rw [this] at h1
    cases h1
  obtain ⟨K', hK'⟩ : ∃ K' : Kn, K' = { M := fun g o => match K.M g o with | some v => some v | none => M2 g o, Z := K.Z, E := K.E, mu := K.mu, R := K.R, N := K.N, gl := fun b cs hb i v hv => by show (match K.M b i with | some v => some v | none => M2 b i) = some v; rw [K.gl b cs hb i v hv] } := ⟨_, rfl⟩
  have hmu : K'.mu = K.mu := by rw [hK']
  have hZ : K'.Z = K.Z := by rw [hK']
  have hE : K'.E = K.E := by rw [hK']
  have hR : K'.R = K.R := by rw [hK']
  have hN : K'.N = K.N := by rw [hK']
  have hM : ∀ g o, K'.M g o = match K.M g o with | some v => some v | none => M2 g o := fun g o => by rw [hK']
  have hold : ∀ g o v, K.M g o = some v → K'.M g o = some v := fun g o v hm => by rw [hM, hm]
  have hlt : ∀ g o, g < w.heap.size → K'.M g o = K.M g o := fun g o hg => by
    rw [hM]
    cases hm : K.M g o with
    | some v => rfl
    | none => exact hlow g o hg
  have hnew : ∀ g o v, M2 g o = some v → K'.M g o = some v := fun g o v hm => by
    rw [hM]
    cases hk : K.M g o with
    | none => exact hm
    | some u => have := hno g o u hk; have := (h2 g o v hm).1; omega
  have hext : Ext K K' := ⟨hold, fun i g h => by rw [hmu]; exact h, fun i g _ => by rw [hZ], fun i g _ => by rw [hE], hR, fun i g _ => by rw [hN]⟩
  have hlv : ∀ b, K'.liveB h b → K.liveB h b := fun b ⟨i, x, h1, h3, h4⟩ => ⟨i, x, h1, h3, by rw [← hmu]; exact h4⟩
  refine ⟨K', ⟨⟨fun i hi => by rw [hmu]; exact H.fresh i hi, fun i hi => by rw [hmu]; exact H.has i hi, fun i g hi => by rw [hmu] at hi; exact hG.lt i g hi, fun i ty cells hi => ?_, fun i ks vs hi => ?_, fun t ty sz len hi => ?_, fun i j x y g hi hj hx hy hm1 hm2 => ?_, fun i ty cells g hi hm o => ?_, fun g o v hm => ?_, fun i ty sz p hi => ?_⟩, hext, hf.mono (fun _ _ e => e.elim), fun g _ => ⟨by rw [hZ], by rw [hE]⟩, fun g o hg _ => hlt g o hg, fun k b hb => .inl (by rw [hmu] at hb; exact hb), fun b hb _ => hlv b hb, Nat.le_refl _⟩, hR, hnew, hold⟩
  · obtain ⟨g, cs, a, b, c, d⟩ := hG.box i ty cells hi
    exact ⟨g, cs, by rw [hmu]; exact a, b, by rw [hZ, hE]; exact c, d.mono hext⟩
  · obtain ⟨g, e, c, a, b, d⟩ := hG.map i ks vs hi
    exact ⟨g, e, c, by rw [hmu]; exact a, b, d.mono hext⟩
  · obtain ⟨g, cs, a, b, c, d, e, f⟩ := hG.tok t ty sz len hi
    refine ⟨g, cs, by rw [hmu]; exact a, b, by rw [hZ]; exact c, by rw [hE]; exact d, by rw [hZ]; exact e, fun o ho => ?_⟩
    rw [hR] at ho
    rw [hlt g o (H.lt t g a)]; exact f o ho
  · rw [hmu] at hm1 hm2
    exact H.inj i j x y g hi hj hx hy hm1 hm2
  · rw [hmu] at hm
    rw [hlt g o (H.lt i g hm)]; exact H.apart i ty cells g hi hm o
  · rw [hM] at hm
    cases hk : K.M g o with
    | some u => rw [hk] at hm; cases hm; exact hG.agr g o _ hk
    | none => rw [hk] at hm; exact (h2 g o v hm).2
  · obtain ⟨g, cs, a, b, c, d⟩ := hG.arr i ty sz p hi
    refine ⟨g, cs, by rw [hmu]; exact a, b, by rw [hZ, hE]; exact c, d.go (fun o => ?_) (by rw [hR]) (by rw [hN]) (by rw [hZ]) (by rw [hE]) (fun q v _ h => h.ext hext)⟩
    rw [hlt g o (H.lt i g a)]; exact d.none o
theorem frm_below {w w' : World} (h : Below w.heap.size w w') : Frm (fun _ => False) w w' := ⟨h.os, h.tape, h.output, h.size, fun k hk _ => h.block k hk⟩
/-! Sorted. -/
set_option maxHeartbeats 1000000 in
theorem coll_any (Bx g off cap : Nat) (zs : List Int) (hz : zs.length ≤ 1000000) (w : World) (h : SlAt w Bx g off cap zs) :
    Calls Try.prog 36 #[.func (.func 38) #[] #[.pointer (some ⟨Bx, 0, none⟩)]] w fun e w' => ∃ v, e = .returned v ∧ w'.ownsRow (w.heap.size + 1) 3 1 v zs.length (zs.map encZ) ∧ Below w.heap.size w w' := by
  have h48 := (callsIn_wide (n := 2)).1 (apps_in Fence.wide 2 trivial trivial rfl (by omega) Bx g off cap zs hz w h)
  go_enter Try.func36, Try.ntmps36
  go_wp2_with (go_at_call 48; refine h48.mono ?_; rintro e w' ⟨v, rfl, ho, hb⟩)
  go_ret
  exact ⟨v, rfl, ho, hb⟩
/-- Sorted rows of a slice. -/
def SrtAt (w w' : World) (e : Ending) (zs : List Int) : Prop := ∃ (a : Option Addr) (cap g : Nat), e = .returned (.slice a zs.length cap) ∧ (zs ≠ [] → a = some ⟨g, 0, none⟩) ∧ zs.length ≤ cap ∧ w.heap.size ≤ g ∧
  (∀ j (h : j < (sortZ zs).length), w'.cell? ⟨g, j, none⟩ = some (.int .i64 (sortZ zs)[j])) ∧ Below w.heap.size w w'
theorem sortZ_len (l : List Int) : (sortZ l).length = l.length := List.length_mergeSort l
set_option maxHeartbeats 1000000 in
theorem srt_any (Bx g off cap : Nat) (zs : List Int) (hz : zs.length ≤ 1000000) (w : World) (h : SlAt w Bx g off cap zs) :
    Calls Try.prog 27 #[.func (.func 38) #[] #[.pointer (some ⟨Bx, 0, none⟩)]] w fun e w' => SrtAt w w' e zs := by
  have h36 := coll_any Bx g off cap zs hz w h
  go_enter Try.func27, Try.ntmps27
  go_wp2_with (go_at_call 36; refine h36.mono ?_; rintro e W ⟨v, rfl, ho, hb⟩)
  rcases ho.2 with ⟨rfl, h0⟩ | ⟨g', cap', cur, rfl, hbase, hgb, r1, r2, r3, r4⟩
  · have hzs : zs = [] := List.eq_nil_of_length_eq_zero h0
    subst hzs
    go_wp2_with (go_at_call 37; refine (Try.slices_Sort_int_none none 0 W).mono ?_; rintro e w' ⟨rfl, rfl⟩)
    go_ret
    exact ⟨none, 0, w.heap.size, rfl, fun hn => absurd rfl hn, Nat.le_refl _, Nat.le_refl _, fun j hj => absurd hj (by simp [sortZ]), hb⟩
  · have hgl : g' < W.heap.size := (Array.getElem?_eq_some_iff.1 hgb).1
    have hH : Sort.Holds (Value.int .i64) W g' 0 zs.toArray := fun j hj => by
      have hj' : j < zs.length := by simpa using hj
      have hcell := ho.cellAt j (by omega)
      have hfz := ho.frozenAt j
      rw [Nat.zero_add]
      refine ⟨?_, hfz⟩
      rw [hcell, List.getElem?_map, List.getElem?_eq_getElem hj']
      simp [getElem!_pos, hj', encZ]
    have cS := Try.slices_Sort_int g' 0 cap' zs W hH hgl (by omega)
    go_wp2_with (go_at_call 37; refine cS.mono ?_; rintro e w' ⟨rfl, nn, os, rfl⟩)
    go_ret
    refine ⟨some ⟨g', 0, none⟩, cap', g', rfl, fun _ => rfl, r1, by omega, fun j hj => ?_, hb.grown (grownBy_sorted_i _) hb.size (fun k hk => by cases hk; omega)⟩
    have hlen : (zs.mergeSort fun x y => decide (x ≤ y)).toArray.size = zs.toArray.size := by simp
    have hH' : Sort.Holds (Value.int .i64) (Sort.ahead W nn) g' 0 zs.toArray := hH
    have hp := Sort.holds_putRow (Value.int .i64) (Sort.ahead W nn) g' 0 _ _ hH' hlen j (by simpa [sortZ] using hj)
    have hgr : (Sort.grow (Sort.putRow (Value.int .i64) (Sort.ahead W nn) g' 0 (zs.mergeSort fun x y => decide (x ≤ y)).toArray) os).cell? ⟨g', j, none⟩ = (Sort.putRow (Value.int .i64) (Sort.ahead W nn) g' 0 (zs.mergeSort fun x y => decide (x ≤ y)).toArray).cell? ⟨g', j, none⟩ := by
      apply World.cell?_of_block
      show ((Sort.putRow (Value.int .i64) (Sort.ahead W nn) g' 0 (zs.mergeSort fun x y => decide (x ≤ y)).toArray).heap ++ os)[g']? = _
      rw [Array.getElem?_append_left (by simpa [Sort.putRow, Sort.mapBlock, Sort.ahead] using hgl)]
    rw [hgr]
    have h1 := hp.1
    rw [Nat.zero_add] at h1
    rw [h1]
    have hj' : j < (zs.mergeSort fun x y => decide (x ≤ y)).length := hj
    simp only [Array.getElem!_eq_getD, Array.getD_eq_getD_getElem?, List.getElem?_toArray, List.getElem?_eq_getElem hj', Option.getD_some]
    rfl
/-- The heap: the box of the iterator, the array that is cut. -/
abbrev srtH (a : Int) (qs : List (List PV)) (l : List Int) : List AObj := [.box 31 [.arv 1 (.lit (.int .i64 a)) (.rows qs)], .arr 3 1 (.rows (ivs l))]
theorem nss_ivs (l : List Int) : nsPss (ivs l) = true := by
  unfold ivs
  induction l with
  | nil => rfl
  | cons n l ih => rw [List.map_cons, nsPss, ih]; rfl
theorem sem_srt (a : Int) (qs : List (List PV)) (l : List Int) (ha : 0 ≤ a) (hl : l.length ≤ 1000000) (hq : a.toNat + qs.length ≤ l.length) :
    Sem Try.prog 27 [.fn 38 [.ptr 0 0]] (srtH a qs l) (.pv (.rows (ivs (sortZ ((l.drop a.toNat).take qs.length))))) (srtH a qs l) := fun R K w us hR W hv => by
  obtain ⟨hvl, hvv⟩ := hv
  cases us with
  | nil => cases hvl
  | cons u us =>
  cases us with
  | cons _ _ => simp at hvl
  | nil =>
  have hv0 := hvv 0 (by simp) (by simp)
  obtain ⟨b, cs, hb, hwb, _, hbv⟩ := W.box 0 31 _ rfl
  obtain ⟨g, ca, hg, hwg, ⟨hcs, hZ⟩, hr⟩ := W.arr 1 3 1 (.rows (ivs l)) rfl
  obtain ⟨es, he, hns, hlen, hle, hel, hcell⟩ := hr.row
  have hes : es = ivs l := by
    have : openPV K.R (.rows (ivs l)) = .rows (ivs l) := openPV_id _ _ (show nsPss (ivs l) = true from nss_ivs l)
    rw [this] at he
    injection he with he
    exact he.symm
  subst hes
  have hE : K.E g = 1 := hr.el
  have hil : (ivs l).length = l.length := by simp [ivs]
  have hc : ∀ j (h : j < l.length), w.cell? ⟨g, j, none⟩ = some (.int .i64 l[j]) := fun j hj => by
    obtain ⟨v, h1, h2⟩ := hcell j (by omega) 0 (by simp [ivs])
    rw [hE, Nat.mul_one, Nat.add_zero] at h1
    have h3 : (ivs l)[j][0]'(by simp [ivs]) = .lit (.int .i64 l[j]) := by simp [ivs]
    rw [h3] at h2
    cases h2
    unfold World.cell?
    simp only [hwg]
    exact h1
  -- the value in the box
  have hbx := hbv.2 0 (by simp) (by have := hbv.1; simp at this ⊢; omega)
  have hb0 : ∃ x, cs[0]? = some x ∧ VR K (.arv 1 (.lit (.int .i64 a)) (.rows qs)) x := by
    have h1 := hbv.1
    simp at h1
    have hsz : 0 < cs.size := by omega
    refine ⟨cs[0], by simp [hsz], ?_⟩
    simpa using hbx
  obtain ⟨x, hx0, hx⟩ := hb0
  have hbc : w.cell? ⟨b, 0, none⟩ = some x := by
    unfold World.cell?
    simp only [hwb]
    exact hx0
  generalize hq' : PV.rows qs = q at hx
  generalize hi' : PV.lit (.int .i64 a) = i at hx
  cases hx with
  | arv t i q g2 k n cap off kd hm hi hq2 hn hc2 hz hof =>
    subst hi'
    subst hq'
    rw [hg] at hm
    cases hm
    have hk : (k : Int) = a := by cases hi; rfl
    have hkn : k = a.toNat := by omega
    have hnq : n = qs.length := by
      cases hq2; rfl
    subst hnq
    obtain ⟨zs, hzs⟩ : ∃ zs, zs = (l.drop a.toNat).take qs.length := ⟨_, rfl⟩
    have hzl : zs.length = qs.length := by rw [hzs]; simp; omega
    have hat : ∀ j (h : j < zs.length), w.cell? ⟨g, off + j, none⟩ = some (.int .i64 zs[j]) := fun j hj => by
      have hcap : 0 < cap := by omega
      rw [hof, if_pos hcap, hE, Nat.mul_one, hc (k + j) (by omega)]
      simp only [hzs, List.getElem_take, List.getElem_drop, hkn]
    have hS : SlAt w b g off cap zs := ⟨W.lt 0 b hb, W.lt 1 g hg, by rw [hbc, hzl], hat⟩
    simp only [List.getElem_cons_zero] at hv0
    cases hv0 with
    | fn _ _ cps hcl hch _ =>
      cases cps with
      | nil => cases hcl
      | cons p cps =>
      cases cps with
      | cons _ _ => simp at hcl
      | nil =>
      have hp := hch 0 (by simp) (by simp)
      simp only [List.getElem_cons_zero] at hp
      cases hp with
      | ptr _ _ b2 hm2 =>
        rw [hb] at hm2
        cases hm2
        refine (srt_any b g off cap zs (by omega) w hS).mono fun e w' ⟨a', cap', g', he, hne, hcap', hg', hcells, hbel⟩ => ?_
        subst he
        have hsl : (sortZ zs).length = zs.length := sortZ_len zs
        obtain ⟨K', hst, hKR, hnew, _⟩ := Step.known W (frm_below hbel) (fun gg o => if gg = g' then ((sortZ zs)[o]?).map (Value.int .i64) else none) (fun gg o v hm3 => by
          by_cases hgg : gg = g'
          · subst hgg
            rw [if_pos rfl] at hm3
            obtain ⟨z, hz1, rfl⟩ := Option.map_eq_some_iff.1 hm3
            obtain ⟨hz2, hz3⟩ := List.getElem?_eq_some_iff.1 hz1
            exact ⟨hg', by rw [hcells o hz2, hz3]⟩
          · rw [if_neg hgg] at hm3; cases hm3)
        refine ⟨K', ⟨_, rfl, ?_⟩, hst⟩
        rw [← hzs]
        have hlen2 : (ivs (sortZ zs)).length = zs.length := by simp [ivs, hsl]
        have hpr := PR.rows (R := K'.R) (M := K'.M) (ivs (sortZ zs)) a' cap' g' 0 1 (fun i _ => .int .i64 ((sortZ zs).getD i 0)) (fun hne2 => hne (fun e0 => hne2 (by rw [e0]; simp [sortZ, ivs]))) (by omega) (fun i hi => by simp [ivs]) (fun i hi j hj => by
          have hj0 : j = 0 := by omega
          subst hj0
          have hi2 : i < (sortZ zs).length := by omega
          refine hnew _ _ _ ?_
          rw [if_pos rfl, Nat.zero_add, Nat.mul_one, Nat.add_zero, List.getElem?_eq_getElem hi2]
          simp [List.getD_eq_getElem?_getD, List.getElem?_eq_getElem hi2]) (fun i hi j hj => by
          have hj0 : j = 0 := by simp [ivs] at hj; omega
          subst hj0
          have hi2 : i < (sortZ zs).length := by omega
          have h3 : (ivs (sortZ zs))[i][0]'(by simp [ivs]) = .lit (.int .i64 (sortZ zs)[i]) := by simp [ivs]
          rw [h3]
          have h4 : (sortZ zs).getD i 0 = (sortZ zs)[i] := by rw [List.getD_eq_getElem?_getD, List.getElem?_eq_getElem hi2]; rfl
          rw [h4]
          exact .lit _ rfl)
        rw [hlen2] at hpr
        exact .pv hpr
    | bfn f2 _ _ _ _ _ hg2 => exact absurd hg2 (by unfold bndF; omega)
end Go.Proofs.Ytkfdklocgpgbfaa
