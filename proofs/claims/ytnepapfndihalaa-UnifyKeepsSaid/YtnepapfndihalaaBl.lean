/- Joined texts. -/
import Derived.Test.YtnepapfndihalaaUkD
import Derived.Test.YtnepapfndihalaaProg
import Derived.WalkKit
import Derived.WalkSpells
import Derived.WalkLawsBesides
import Derived.Deep.LoopGhost
import Derived.Deep.QuietTactic
import Derived.Deep.OwnRows
import Derived.Deep.AppendLies
import Derived.BigQuiet
import Derived.Laws.AppendOwn
import Derived.Laws.OwnMore
import Derived.Below
import Derived.Handy
import Derived.OwnWalk
import Derived.Lib.Hide
import Derived.Deep.Heap
import Derived.Deep.Upon
import Derived.Deep.RegionLaw
import Derived.Deep.RegionHeldLaw
import Derived.Laws.EntriesVeiled
import Derived.Maps.AppendAt
import Derived.Test.YtnepapfndihalaaBc
set_option linter.unusedVariables false
set_option linter.unusedSimpArgs false
set_option linter.unusedSectionVars false
namespace Go.Proofs.Ytnepapfndihalaa
open Go.RowKit Go.Deep
theorem info35 : (Try.prog.info? 35).map (fun i => (i.zero, i.size, i.bytes)) = some (some (.agg #[.int .i64 0, .int .i64 0, .string ByteArray.empty, .int .i64 0, .slice none 0 0]), 5, 64) := by kernel_rfl
theorem und30 : Try.prog.underlying 30 = some (.slice 35) := by kernel_rfl
theorem cellQ {w : World} {A j : Nat} {cs : Array Value} {t : TypeId} {v : Value} (h : w.heap[A]? = some (.cells cs t (0, 0))) (hj : cs[j]? = some v) : w.cell? ⟨A, j, none⟩ = some v := by
  unfold World.cell?
  simp only [h]
  exact hj
set_option maxHeartbeats 4000000 in
set_option maxRecDepth 100000 in
theorem copy_any (Q g n cap : Nat) (news : List Value) (w : World) (c0 : w.cell? ⟨Q, 0, none⟩ = some (.slice (some ⟨g, 0, none⟩) n cap)) (c1 : w.cell? ⟨Q, 1, none⟩ = some (.bool false)) (lQ : Q < w.heap.size) (hn : 0 < n) (hl : news.length = n * 5) (hnw : ∀ j u, news[j]? = some u → w.cell? ((⟨g, 0, none⟩ : Addr).add j) = some u) (h1 : ∀ u ∈ news, u.oneCell' = true) (hb : n ≤ 1000001) :
    Calls Try.prog 13 #[.pointer (some ⟨Q, 0, none⟩)] w fun e w' => ∃ gg cc w1, e = .returned (.pointer (some ⟨w1.heap.size, 0, none⟩)) ∧ w1.ownsRow w.heap.size 35 5 (.slice (some ⟨gg, 0, none⟩) n cc) n news ∧ w.drew.grownBy w1 none ∧ w' = w1.alloc (.cells #[.slice (some ⟨gg, 0, none⟩) n cc, .bool false] 42) := by
  obtain ⟨i35, hi35, hz0, hz1, hz2⟩ := info_parts info35
  go_enter Try.func13, Try.ntmps13
  go_wp2_with fail
  go_region_law (first | ((refine step_append_lies _ (by rfl) _ _ _ (by rfl) w.heap.size 35 i35 _ 5 64 und30 hi35 hz0 hz1 hz2 rfl (by decide) (.slice none 0 0) 0 [] (by rfl) (World.ownsRow_nil _ _ _ _) ⟨g, 0, none⟩ n cap news (by rfl) hl hnw h1 hn (by unfold maxLen; omega) (by omega) (by simp) w.heap.size (by simp) ?_; intro gg cc w1 hown1 hgrow hat hlt; have cw0 : w1.cell? ⟨Q, 0, none⟩ = some (.slice (some ⟨g, 0, none⟩) n cap) := (hgrow.cell_far ⟨Q, 0, none⟩ (by simpa using lQ) (by simp [Value.ownBlock])).trans c0; have cw1 : w1.cell? ⟨Q, 1, none⟩ = some (.bool false) := (hgrow.cell_far ⟨Q, 1, none⟩ (by simpa using lQ) (by simp [Value.ownBlock])).trans c1)))
  all_goals
    go_wp2_with fail
    go_returns
    refine ⟨gg, cc, w1, rfl, ?_, ?_, ?_⟩
    · simpa using hown1
    · simpa [Value.ownBlock] using hgrow
    · rfl
end Go.Proofs.Ytnepapfndihalaa
namespace Go.Proofs.Ytnepapfndihalaa
open Go.RowKit Go.Deep
theorem vl_oneE {K : Kn} {a : AV} {us : List Value} (h : VL K [a] us) : ∃ v, us = [v] ∧ VR K a v := by
  obtain ⟨h1, h2⟩ := h
  cases us with
  | nil => cases h1
  | cons v l =>
    cases l with
    | nil => exact ⟨v, rfl, h2 0 (by simp) (by simp)⟩
    | cons => simp at h1
theorem vl_two {K : Kn} {a b : AV} {us : List Value} (h : VL K [a, b] us) : ∃ u v, us = [u, v] ∧ VR K a u ∧ VR K b v := by
  obtain ⟨h1, h2⟩ := h
  match us with
  | [] => cases h1
  | [u] => simp at h1
  | [u, v] => exact ⟨u, v, rfl, h2 0 (by simp) (by simp), h2 1 (by simp) (by simp)⟩
  | _ :: _ :: _ :: _ => simp at h1
theorem cell_blk {w : World} {A j : Nat} {cs : Array Value} {t : TypeId} {v : Value} (h : w.heap[A]? = some (.cells cs t (0, 0))) (hj : cs[j]? = some v) : w.cell? ⟨A, j, none⟩ = some v := by
  unfold World.cell?
  simp only [h]
  exact hj
/-- Equations in memory. -/
abbrev eqsH (es : List (List PV)) : List AObj := [.box 42 [.arr 1, .pv (.lit (.bool false))], .arr 35 5 (.rows es)]
theorem sem_copy (es : List (List PV)) (h0 : es ≠ []) (h5 : ∀ c ∈ es, c.length = 5) (hb : es.length ≤ 1000001) (hns : nsPss es = true) : Sem Try.prog 13 [.ptr 0 0] (eqsH es) (.ptr 2 0) [.box 42 [.arr 1, .pv (.lit (.bool false))], .arr 35 5 (.rows es), .box 42 [.arr 3, .pv (.lit (.bool false))], .arr 35 5 (.rows es)] := fun R K w us hR W hv => by
  obtain ⟨v, rfl, hv2⟩ := vl_oneE hv
  obtain ⟨Q', cs, hQ', hq, hqs, hql⟩ := W.box 0 42 _ rfl
  obtain ⟨g, cs1, hg, hw, ⟨hs, hZ⟩, hr⟩ := W.arr 1 35 5 (.rows es) rfl
  obtain ⟨es', he, _, hlen, hle, hel, hcell⟩ := hr.row
  have hop : openPV K.R (.rows es) = .rows es := openPV_id _ _ (show nsPss es = true from hns)
  rw [hop] at he
  injection he with he
  subst he
  have hE := hr.el
  cases hv2 with
  | ptr _ _ Q hQ =>
  rw [hQ] at hQ'
  cases hQ'
  obtain ⟨v0, v1, hl01, e0, e1⟩ := vl_two hql
  have hcs : ∀ j u, [v0, v1][j]? = some u → cs[j]? = some u := fun j u hj => by
    have hj2 : j < 2 := (List.getElem?_eq_some_iff.1 hj).1
    rw [← hl01] at hj
    change (cs.toList.take 2)[j]? = some u at hj
    rw [List.getElem?_take_of_lt hj2] at hj
    rw [← Array.getElem?_toList]; exact hj
  have q0 := hcs 0 v0 rfl
  have q1 := hcs 1 v1 rfl
  have hv1 : v1 = .bool false := by
    cases e1 with
    | pv hp => cases hp; rfl
  subst hv1
  cases e0 with
  | arr _ g' cap hm' hn hz =>
  rw [hg] at hm'
  cases hm'
  have hlQ := W.lt 0 Q' hQ
  have hpos : 0 < es.length := List.length_pos_iff.2 h0
  have hnl : (cs1.toList.take (es.length * 5)).length = es.length * 5 := by
    have hsz : cs1.toList.length = cs1.size := Array.length_toList
    rw [List.length_take, hsz, hs, hE]
    exact Nat.min_eq_left (Nat.mul_le_mul_right 5 hle)
  have hnget : ∀ j u, (cs1.toList.take (es.length * 5))[j]? = some u → j < es.length * 5 ∧ cs1[j]? = some u := fun j u hj => by
    have hj1 : j < es.length * 5 := by
      have := (List.getElem?_eq_some_iff.1 hj).1
      omega
    rw [List.getElem?_take_of_lt hj1] at hj
    exact ⟨hj1, by rw [← Array.getElem?_toList]; exact hj⟩
  have hpr : ∀ j, (hj : j < es.length * 5) → ∃ u, cs1[j]? = some u ∧ u.oneCell' = true := fun j hj => by
    have hk : j / 5 < es.length := by omega
    have h5k := h5 _ (List.getElem_mem hk)
    obtain ⟨u, h1, h2⟩ := hcell (j / 5) hk (j % 5) (by rw [h5k]; omega)
    rw [hE] at h1
    exact ⟨u, by rw [← h1]; congr 1; omega, h2.one⟩
  have hone : ∀ u ∈ cs1.toList.take (es.length * 5), u.oneCell' = true := fun u hu => by
    obtain ⟨j, hj⟩ := List.getElem?_of_mem hu
    obtain ⟨h1, h2⟩ := hnget j u hj
    obtain ⟨u', h3, h4⟩ := hpr j h1
    rw [h2] at h3
    cases h3
    exact h4
  have hc := copy_any Q' g es.length cap (cs1.toList.take (es.length * 5)) w (by rw [hlen]; exact cell_blk hq q0) (cell_blk hq q1) hlQ hpos hnl (fun j u hj => by
    have := (hnget j u hj).2
    have ea : (⟨g, 0, none⟩ : Addr).add j = ⟨g, j, none⟩ := by
      unfold Addr.add
      by_cases h : j = 0
      · rw [if_pos h, h]
      · rw [if_neg h]; simp
    rw [ea]
    exact cell_blk hw this) hone hb
  refine hc.mono fun e w' hh => ?_
  obtain ⟨gg, cc, w1, rfl, hown, hgrow, rfl⟩ := hh
  rcases hown.2 with ⟨hx, _⟩ | ⟨g2, cap2, cur, hx, hbase, hgb, r1, r2, r3, r4⟩
  · cases hx
  cases hx
  have hfr : Frm (fun k => k = gg) w w1 := ⟨hgrow.os, hgrow.tape, hgrow.output, hgrow.size, fun k hk _ => hgrow.block k hk (by simp)⟩
  have hM : ∀ o, K.M gg o = none := fun o => W.noM hbase o
  have hcur : ∀ j, j < es.length * 5 → cur[j]? = cs1[j]? := fun j hj => by
    have h1 := congrArg (fun l => l[j]?) r4
    simp only [List.getElem?_take_of_lt hj] at h1
    rw [← Array.getElem?_toList, ← Array.getElem?_toList]
    exact h1
  obtain ⟨K1, s1, m1, m2, m3, m4⟩ := Step.putArr W (h1 := eqsH es) (w' := w1) 35 5 (.rows es) gg cc cur es hop hns hgb r3 r2 (by omega) (fun k hk => h5 _ (List.getElem_mem hk))
    (fun k hk j hj => by
      have h5k := h5 _ (List.getElem_mem hk)
      obtain ⟨u, h1, h2⟩ := hcell k hk j hj
      rw [hE] at h1
      exact ⟨u, by rw [hcur _ (by omega)]; exact h1, h2⟩)
    (Array.getElem?_eq_some_iff.1 hgb).1 hfr hM rfl (fun j x hj hl => ⟨hj, fun hm => by have := W.lt j gg hm; omega⟩) (fun i hm => by have := W.lt i gg hm; omega) (.inl hbase)
  change K1.mu 2 = some gg at m1
  change K1.N 2 = es.length at m2
  have hva : VR K1 (.arr 2) (.slice (some ⟨gg, 0, none⟩) es.length cc) := by
    have := VR.arr (K := K1) 2 gg cc m1 (by rw [m2]; exact r1) (by rw [m3]; exact Nat.le_refl _)
    rw [m2] at this
    exact this
  have s2 := Step.allocBox s1.wr 42 [.arr 2, .pv (.lit (.bool false))] #[.slice (some ⟨gg, 0, none⟩) es.length cc, .bool false] ⟨rfl, fun i hi hi' => by
    match i with
    | 0 => exact hva
    | 1 => exact .pv (.lit _ rfl)
    | i + 2 =>
      have h9 : i + 2 < 2 := hi
      exact absurd h9 (by omega)⟩
  have hst := s1.trans s2
  obtain ⟨f, K3, f1, f2, f3⟩ := finish_sound W hst (v := .ptr 3 0) (v' := .ptr 2 0) (hs := [.box 42 [.arr 1, .pv (.lit (.bool false))], .arr 35 5 (.rows es), .box 42 [.arr 3, .pv (.lit (.bool false))], .arr 35 5 (.rows es)]) (by rfl)
  exact ⟨K3, EndR.ren f1 (show EndR _ (.ptr 3 0) _ from ⟨_, rfl, .ptr _ _ _ (withBox_mu _ _ _ _ _)⟩) f2, f3⟩
section
variable {P : Program} {S : Nat → List Shape} {E : Nat → Ent} {T : Nat → Et} {k m : Nat}
theorem ext_cpy (hE : E k = { f := 13, args := [.ptr 0 0], h := [.box 42 [.arr 1, .pv (.lit (.bool false))], .arr 35 5 (.sym 0)], n := 1, fam := m })
    (hS : S m = [{ v := .ptr 2 0, h := [.box 42 [.arr 1, .pv (.sym 0)], .arr 35 5 (.sym 1), .box 42 [.arr 3, .pv (.sym 2)], .arr 35 5 (.sym 3)], m := 4 }]) (hT : T k = .ext cpyP) : RuleOk Try.prog S E T k := by
  refine RuleOk.ext (by rw [hE]) hT fun l r hp hr => ?_
  unfold cpyP at hr
  split at hr
  · rename_i e es
    split at hr
    · rename_i hc
      cases hr
      rw [Bool.and_eq_true, List.all_eq_true, decide_eq_true_eq] at hc
      have hns : NS (.rows (e :: es)) := hp.ns _ List.mem_cons_self
      have hnb : nsPss (e :: es) = true := by
        have := nsP_of hns
        rw [nsP] at this; exact this
      refine ⟨?_, ?_, ?_, ?_, ?_⟩
      · unfold SemQ shp
        simp only [hE, hS]
        exact sem_copy (e :: es) (by simp) (fun c hc' => by simpa using hc.1 c hc') (by rw [List.length_cons]; omega) hnb
      · simp only [hE, hS]; decide
      · simp only [hE, hS]; rfl
      · intro p hp
        simp only [List.mem_cons, List.not_mem_nil, or_false] at hp
        rcases hp with rfl | rfl | rfl | rfl
        · exact .lit _
        · exact hns
        · exact .lit _
        · exact hns
      · simp only [hE, hS]
        exact fun i hi => by cases hi
    · cases hr
  · cases hr
theorem ext_awk (ha : Sem Try.prog 5 [] [] (.pv (.lit (.bool true))) []) (hE : E k = { f := 5, args := [], n := 0, fam := m }) (hS : S m = [{ v := .pv (.sym 0), m := 1 }]) (hT : T k = .ext awkP) : RuleOk Try.prog S E T k := by
  refine RuleOk.ext (by rw [hE]) hT fun l r hp hr => ?_
  unfold awkP at hr
  split at hr
  · cases hr
    refine ⟨?_, ?_, ?_, ?_, ?_⟩
    · unfold SemQ shp
      simp only [hE, hS]
      exact ha
    · simp only [hE, hS]; decide
    · simp only [hE, hS]; rfl
    · intro p hp
      rw [List.mem_singleton.1 hp]
      exact .lit _
    · simp only [hE, hS]
      exact fun i hi => by cases hi
  · cases hr
end
end Go.Proofs.Ytnepapfndihalaa
