/- Joined texts. -/
import Derived.Test.YtkfdklocgpgbfaaBl
import Derived.Test.YtkfdklocgpgbfaaBf
import Derived.Test.YtkfdklocgpgbfaaProg
import Derived.WalkKit
import Derived.WalkSpells
import Derived.WalkLawsBesides
import Derived.Deep.LoopGhost
import Derived.Deep.QuietTactic
import Derived.Deep.OwnRows
import Derived.BigQuiet
import Derived.Laws.AppendOwn
import Derived.Laws.OwnMore
import Derived.Below
import Derived.Handy
import Derived.OwnWalk
import Derived.Lib.Hide
import Derived.Deep.Heap
import Derived.Test.YtkfdklocgpgbfaaBh
set_option linter.unusedVariables false
set_option linter.unusedSimpArgs false
set_option linter.unusedSectionVars false
namespace Go.Proofs.Ytkfdklocgpgbfaa
open Go.RowKit Go.Deep

/-- Rows of bools in new memory: r of them, n cells each. -/
structure MatF (base : Nat) (W : World) (v : Value) (B : Nat → Nat) (n r : Nat) (f : Nat → Nat → Bool) : Prop where
  own : W.ownsRow base 34 1 v r ((List.range r).map fun j => .slice (some ⟨B j, 0, none⟩) n n)
  lo : ∀ j, j < r → base ≤ B j
  inj : ∀ i j, i < r → j < r → B i = B j → i = j
  row : ∀ j, j < r → W.rowIs (B j) 4 n (fun c => .bool (f j c))
theorem MatF.ne {base : Nat} {W : World} {v : Value} {B : Nat → Nat} {n r : Nat} {f : Nat → Nat → Bool} (h : MatF base W v B n r f) {j : Nat} (hj : j < r) : v.ownBlock ≠ some (B j) := fun e => by
  rcases h.own.2 with ⟨rfl, _⟩ | ⟨g, cap, cur, rfl, _, h1, _⟩
  · cases e
  · cases e
    obtain ⟨c, h2, _⟩ := h.row j hj
    rw [h1] at h2
    cases h2
theorem grownBy_set (W : World) (a : Addr) (v : Value) : W.grownBy (W.setCell a v) (some a.block) :=
  ⟨rfl, rfl, rfl, by simp, fun k _ hk => Go.Deep.blk_setCell_other _ _ _ _ (fun e => hk (by rw [e]))⟩
theorem MatF.keep {base : Nat} {W W' : World} {v : Value} {B : Nat → Nat} {n r : Nat} {f : Nat → Nat → Bool} (h : MatF base W v B n r f) {row : Option Nat} (hg : W.grownBy W' row) (h1 : v.ownBlock = none ∨ v.ownBlock ≠ row) (h2 : ∀ j, j < r → some (B j) ≠ row) : MatF base W' v B n r f :=
  ⟨h.own.kept hg h1, h.lo, h.inj, fun j hj => (h.row j hj).of_block (hg.block _ (h.row j hj).lt (h2 j hj))⟩
theorem MatF.alloc {base : Nat} {W : World} {v : Value} {B : Nat → Nat} {n r : Nat} {f : Nat → Nat → Bool} (h : MatF base W v B n r f) (o : Obj) : MatF base (W.alloc o) v B n r f :=
  ⟨h.own.alloc o, h.lo, h.inj, fun j hj => (h.row j hj).alloc o⟩
theorem MatF.set {base : Nat} {W : World} {v : Value} {B : Nat → Nat} {n r : Nat} {f : Nat → Nat → Bool} (h : MatF base W v B n r f) {i : Nat} (hi : i < r) (k : Nat) (b : Bool) : MatF base (W.setCell ⟨B i, k, none⟩ (.bool b)) v B n r (fun j c => if j = i ∧ c = k then b else f j c) :=
  ⟨h.own.kept (grownBy_set W _ _) (.inr (h.ne hi)), h.lo, h.inj, fun j hj => by
    by_cases hji : j = i
    · subst hji
      exact ((h.row j hj).set k _).congr fun c _ => by by_cases hc : c = k <;> simp [hc]
    · exact ((h.row j hj).setOther (fun e => hji (h.inj j i hj hi e)) _).congr fun c _ => by simp [hji]⟩
theorem MatF.congr {base : Nat} {W : World} {v : Value} {B : Nat → Nat} {n r : Nat} {f g : Nat → Nat → Bool} (h : MatF base W v B n r f) (e : ∀ j c, j < r → c < n → f j c = g j c) : MatF base W v B n r g :=
  ⟨h.own, h.lo, h.inj, fun j hj => (h.row j hj).congr fun c hc => by rw [e j c hj hc]⟩
/-- A row more. -/
theorem MatF.push {base : Nat} {W W' : World} {v v' : Value} {B : Nat → Nat} {n r b : Nat} {f : Nat → Nat → Bool} {p : Nat → Bool} (h : MatF base W v B n r f) (hb : base ≤ b) (hnew : ∀ j, j < r → B j ≠ b) (hrow : W.rowIs b 4 n (fun c => .bool (p c)))
    (hown : W'.ownsRow base 34 1 v' (r + 1) ((List.range r).map (fun j => Value.slice (some ⟨B j, 0, none⟩) n n) ++ [.slice (some ⟨b, 0, none⟩) n n])) (hg : W.grownBy W' v.ownBlock) (hvb : v.ownBlock ≠ some b) :
    MatF base W' v' (fun j => if j = r then b else B j) n (r + 1) (fun j c => if j = r then p c else f j c) := by
  refine ⟨?_, fun j hj => ?_, fun i j hi hj e => ?_, fun j hj => ?_⟩
  · rw [List.range_succ, List.map_append]
    have e1 : ((List.range r).map fun j => Value.slice (some ⟨if j = r then b else B j, 0, none⟩) n n) = (List.range r).map fun j => Value.slice (some ⟨B j, 0, none⟩) n n := List.map_congr_left fun j hj => by
      have := List.mem_range.1 hj
      rw [if_neg (by omega)]
    rw [e1]
    simpa using hown
  · show base ≤ if j = r then b else B j
    split
    · exact hb
    · exact h.lo j (by omega)
  · have e' : (if i = r then b else B i) = (if j = r then b else B j) := e
    by_cases h1 : i = r
    · by_cases h2 : j = r
      · omega
      · rw [if_pos h1, if_neg h2] at e'
        exact absurd e'.symm (hnew j (by omega))
    · by_cases h2 : j = r
      · rw [if_neg h1, if_pos h2] at e'
        exact absurd e' (hnew i (by omega))
      · rw [if_neg h1, if_neg h2] at e'
        exact h.inj i j (by omega) (by omega) e'
  · by_cases h1 : j = r
    · subst h1
      simp only [if_true]
      exact hrow.of_block (hg.block _ hrow.lt (fun e => hvb e.symm))
    · simp only [h1, if_false]
      exact (h.row j (by omega)).of_block (hg.block _ (h.row j (by omega)).lt (fun e => h.ne (j := j) (by omega) e.symm))
/-- What comes in: rows of needs, that lie as they lay. -/
structure NdAt (w : World) (gb ob : Nat) (N : List (List Nat)) (A : Nat → Option Addr) (C Ab Ao : Nat → Nat) : Prop where
  row : ∀ i, i < N.length → w.cell? ⟨gb, ob + i, none⟩ = some (.slice (A i) (nd N i).length (C i))
  at_ : ∀ i, i < N.length → ∀ q (h : q < (nd N i).length), A i = some ⟨Ab i, Ao i, none⟩ ∧ w.cell? ⟨Ab i, Ao i + q, none⟩ = some (.int .i64 ((nd N i)[q] : Int))
theorem NdAt.below {w w' : World} {gb ob : Nat} {N : List (List Nat)} {A : Nat → Option Addr} {C Ab Ao : Nat → Nat} (h : NdAt w gb ob N A C Ab Ao) (hb : Below w.heap.size w w') : NdAt w' gb ob N A C Ab Ao :=
  ⟨fun i hi => (hb.cell (p := ⟨gb, ob + i, none⟩) (World.block_lt_of_cell? w _ (h.row i hi))).trans (h.row i hi), fun i hi q hq => ⟨(h.at_ i hi q hq).1, (hb.cell (p := ⟨Ab i, Ao i + q, none⟩) (World.block_lt_of_cell? w _ (h.at_ i hi q hq).2)).trans (h.at_ i hi q hq).2⟩⟩
theorem info34 : (Try.prog.info? 34).map (fun i => (i.zero, i.size, i.bytes)) = some (some (.slice none 0 0), 1, 24) := by kernel_rfl
theorem info4 : (Try.prog.info? 4).map (fun i => (i.zero, i.size, i.bytes)) = some (some (.bool false), 1, 1) := by kernel_rfl
/-- The first rows: who needs whom. -/
def rowQ (r : List Nat) (q c : Nat) : Bool := decide (c ∈ r.take q)
def rowA (N : List (List Nat)) (i c : Nat) : Bool := rowQ (nd N i) (nd N i).length c
theorem wr2 {n : Nat} (h : n < 9000000000000000000) : IntKind.i64.wrap ((n : Int) + 1) = ((n + 1 : Nat) : Int) := by rw [IntKind.wrap_i64]; omega
/-- The rows in the middle of round m: those before (q, k) are of round m + 1. -/
def curM (N : List (List Nat)) (m q k j c : Nat) : Bool := if j < q ∨ (j = q ∧ c < k) then reachB N.length (zN N) (m + 1) j c else reachB N.length (zN N) m j c
theorem reachB_succ (n : Nat) (z : List (List Int)) (m i k : Nat) : reachB n z (m + 1) i k = (reachB n z m i k || (decide (i < n) && decide (k < n) && (reachB n z m i m && reachB n z m m k))) := rfl
theorem curM_start (N : List (List Nat)) (m j c : Nat) : reachB N.length (zN N) m j c = curM N m 0 0 j c := by
  unfold curM
  rw [if_neg (by omega)]
theorem curM_left (N : List (List Nat)) {m q k : Nat} (hq : q < N.length) (hm : m < N.length) : curM N m q k q m = reachB N.length (zN N) m q m := by
  unfold curM
  split
  · rw [reachB_succ]
    cases reachB N.length (zN N) m q m <;> simp
  · rfl
theorem curM_right (N : List (List Nat)) {m q k : Nat} (hk : k < N.length) (hm : m < N.length) : curM N m q k m k = reachB N.length (zN N) m m k := by
  unfold curM
  split
  · rw [reachB_succ]
    cases reachB N.length (zN N) m m k <;> simp
  · rfl
theorem curM_no (N : List (List Nat)) {m q k : Nat} (hq : q < N.length) (hk : k < N.length) (e : (reachB N.length (zN N) m q m && reachB N.length (zN N) m m k) = false) (j c : Nat) : curM N m q k j c = curM N m q (k + 1) j c := by
  unfold curM
  by_cases h1 : j < q ∨ (j = q ∧ c < k)
  · rw [if_pos h1, if_pos (by omega)]
  · rw [if_neg h1]
    by_cases h2 : j = q ∧ c = k
    · rw [if_pos (by omega), h2.1, h2.2, reachB_succ, e]
      simp
    · rw [if_neg (by omega)]
theorem curM_yes (N : List (List Nat)) {m q k : Nat} (hq : q < N.length) (hk : k < N.length) (e : (reachB N.length (zN N) m q m && reachB N.length (zN N) m m k) = true) (j c : Nat) : (if j = q ∧ c = k then true else curM N m q k j c) = curM N m q (k + 1) j c := by
  by_cases h2 : j = q ∧ c = k
  · rw [if_pos h2]
    unfold curM
    rw [if_pos (by omega), h2.1, h2.2, reachB_succ, e]
    simp [hq, hk]
  · rw [if_neg h2]
    unfold curM
    by_cases h1 : j < q ∨ (j = q ∧ c < k)
    · rw [if_pos h1, if_pos (by omega)]
    · rw [if_neg h1, if_neg (by omega)]
theorem curM_next (N : List (List Nat)) (m q j c : Nat) (hc : c < N.length) : curM N m q N.length j c = curM N m (q + 1) 0 j c := by
  unfold curM
  by_cases h1 : j < q ∨ (j = q ∧ c < N.length)
  · rw [if_pos h1, if_pos (by omega)]
  · rw [if_neg h1, if_neg (by omega)]
theorem curM_end (N : List (List Nat)) (m j c : Nat) (hj : j < N.length) : curM N m N.length 0 j c = reachB N.length (zN N) (m + 1) j c := by
  unfold curM
  rw [if_pos (.inl hj)]
theorem rowA_need (N : List (List Nat)) (j c : Nat) : rowA N j c = reachB N.length (zN N) 0 j c := by
  show rowA N j c = needB (zN N) j c
  have h1 : rowA N j c = true ↔ needB (zN N) j c = true := by
    rw [need_iff, rowA, rowQ, decide_eq_true_eq, List.take_length]
  exact Bool.eq_iff_iff.2 h1
/-- The row's head in the outer row. -/
theorem MatF.head {base g cap : Nat} {W : World} {B : Nat → Nat} {n r : Nat} {f : Nat → Nat → Bool} (h : MatF base W (.slice (some ⟨g, 0, none⟩) r cap) B n r f) {j : Nat} (hj : j < r) : W.cell? ⟨g, j, none⟩ = some (.slice (some ⟨B j, 0, none⟩) n n) := by
  rw [h.own.cellAt j (by omega), List.getElem?_map, List.getElem?_range hj]
  rfl
set_option maxHeartbeats 2000000 in
set_option maxRecDepth 100000 in
theorem reach_any (gb ob cap : Nat) (N : List (List Nat)) (A : Nat → Option Addr) (C Ab Ao : Nat → Nat) (w : World) (hr : Rng N) (hn0 : 0 < N.length) (hn : N.length ≤ 100000) (hl : ∀ i, i < N.length → (nd N i).length < 9000000000000000000) (h : NdAt w gb ob N A C Ab Ao) :
    Calls Try.prog 12 #[.slice (some ⟨gb, ob, none⟩) N.length cap] w fun e w' => ∃ B v, e = .returned v ∧ MatF w.heap.size w' v B N.length N.length (fun i k => RB N i k) ∧ Below w.heap.size w w' := by
  obtain ⟨i34, hi34, hz0, hz1, hz2⟩ := info_parts info34
  go_enter Try.func12, Try.ntmps12
  go_wp2
  go_loopg [3, 4] N.length (fun g o i wr => ∃ (v : Value) (k : Nat) (B : Nat → Nat), v = o ∧ i = .int .i64 (k : Int) ∧ k ≤ N.length ∧ g = N.length - k ∧ MatF w.heap.size wr o B N.length k (rowA N) ∧ Below w.heap.size w wr)
  case atStart =>
    exact ⟨_, 0, fun _ => 0, rfl, rfl, Nat.zero_le _, rfl, ⟨World.ownsRow_nil _ _ _ _, fun j hj => absurd hj (Nat.not_lt_zero _), fun i j hi _ _ => absurd hi (Nat.not_lt_zero _), fun j hj => absurd hj (Nat.not_lt_zero _)⟩, Below.refl _ _⟩
  case round =>
    obtain ⟨o, k, B, rfl, rfl, hk, rfl, hM, hb⟩ := hrel
    have hA := h.below hb
    have hbase := hb.size
    by_cases hkn : k < N.length
    · have hkn' : (k : Int) < N.length := by omega
      have hrow := hA.row k hkn
      have hmk := run_make_row' (P := Try.prog) 34 4 (.bool false) 1 Try.underlying34 info4 rfl .i64 .i64 N.length (by omega) (by omega)
      have hlk := hl k hkn
      obtain ⟨rk, hrk⟩ : ∃ rk, rk = nd N k := ⟨_, rfl⟩
      rw [← hrk] at hlk hrow
      have HRK := Lib.hid hrk
      have hrng : ∀ q (h : q < rk.length), rk[q] < N.length := fun q hq => hr.at k _ (hrk ▸ List.getElem_mem hq)
      clear hrk
      go_wp2
      clear hmk
      have hM0 := hM.alloc (.cells (madeCells #[.bool false] N.length) 4)
      have hr0 := World.rowIs_made wr (.bool false) N.length 4
      have hb0 : Below w.heap.size w (wr.alloc (.cells (madeCells #[.bool false] N.length) 4)) := hb.alloc hbase _
      have hs0 : (wr.alloc (.cells (madeCells #[.bool false] N.length) 4)).heap.size = wr.heap.size + 1 := by simp
      generalize wr.alloc (.cells (madeCells #[.bool false] N.length) 4) = W0 at hM0 hr0 hb0 hs0 ⊢
      clear hrow hA
      have hold : ∀ j, j < k → B j ≠ wr.heap.size := fun j hj e => by
        have := (hM.row j hj).lt
        omega
      have hown0 : ∀ g, o.ownBlock = some g → w.heap.size ≤ g ∧ g < wr.heap.size := fun g hg => hM.own.lt g hg
      generalize wr.heap.size = b at hbase hs0 hr0 hold hown0 ⊢
      clear hM hb
      go_loopg [6] (rk.length) (fun g j wi => ∃ q : Nat, j = .int .i64 (q : Int) ∧ q ≤ rk.length ∧ g = rk.length - q ∧ MatF w.heap.size wi o B N.length k (rowA N) ∧ wi.rowIs b 4 N.length (fun c => .bool (rowQ rk q c)) ∧ Below w.heap.size w wi ∧ W0.heap.size ≤ wi.heap.size)
      case atStart => exact ⟨0, rfl, Nat.zero_le _, rfl, hM0, hr0.congr fun c _ => by simp [rowQ], hb0, Nat.le_refl _⟩
      case round =>
        obtain ⟨q, rfl, hq, rfl, hMi, hri, hbi, hsi⟩ := hrel
        have hAi := h.below hbi
        have hrow := hAi.row k hkn
        rw [← HRK.out] at hrow
        by_cases hql : q < rk.length
        · have hql' : (q : Int) < rk.length := by omega
          have hat := hAi.at_ k hkn
          rw [← HRK.out] at hat
          obtain ⟨hAk, hcell⟩ := hat q hql
          rw [hAk] at hrow
          have hx : rk[q] < N.length := hrng q hql
          have hx' : (rk[q] : Int) < N.length := by omega
          have htk : rk.take (q + 1) = rk.take q ++ [rk[q]] := by rw [List.take_add_one, List.getElem?_eq_getElem hql]; rfl
          have hfr := hri.frozen (rk[q])
          have hcx := hri.cell hx
          have hset := (hri.set (rk[q]) (.bool true)).congr (g := fun c => .bool (rowQ rk (q + 1) c)) fun c _ => by
            unfold rowQ
            rw [htk]
            by_cases hc : c = rk[q]
            · rw [if_pos hc]
              congr 1
              exact (decide_eq_true (List.mem_append.2 (.inr (List.mem_singleton.2 hc)))).symm
            · rw [if_neg hc]
              congr 1
              refine decide_eq_decide.2 ⟨fun h5 => List.mem_append.2 (.inl h5), fun h5 => (List.mem_append.1 h5).resolve_right (fun h6 => hc (List.mem_singleton.1 h6))⟩
          have hMs := hMi.keep (grownBy_set wr ⟨b, rk[q], none⟩ (.bool true)) (by
            cases ho : o.ownBlock with
            | none => exact .inl rfl
            | some g =>
              right
              intro e
              have h1 := (hown0 g ho).2
              have h2 : g = b := Option.some.inj e
              omega) (fun j hj e => hold j hj (Option.some.inj e))
          have hbs : Below w.heap.size w (wr.setCell ⟨b, rk[q], none⟩ (.bool true)) := hbi.setCell (p := ⟨b, rk[q], none⟩) hbase _
          obtain ⟨x, hxe⟩ : ∃ x, x = rk[q] := ⟨_, rfl⟩
          rw [← hxe] at hcell hx hx' hfr hcx hset hMs hbs
          clear hxe htk hrng hat
          have e0 := wr2 (n := q) (by omega)
          clear hAi hMi hri hbi
          go_wp2
          go_roundg (rk.length - (q + 1))
          case measure => omega
          case rel => exact ⟨q + 1, congrArg (Value.int .i64) (by omega), by omega, rfl, hMs, hset, hbs, by simpa using hsi⟩
        · have hql' : ¬ (q : Int) < rk.length := by omega
          have hqe : q = rk.length := by omega
          subst hqe
          have e0 := wr2 (n := k) (by omega)
          have hbi' := hbi.size
          clear hAi
          go_wp2_with (at_builtin; refine wpList_append_own _ rfl _ _ 32 rfl w.heap.size 34 i34 (.slice none 0 0) 1 24 Try.underlying32 hi34 hz0 hz1 hz2 rfl (by decide) o k ((List.range k).map fun j => .slice (some ⟨B j, 0, none⟩) N.length N.length) rfl (hMi.own.alloc _) ⟨wr.heap.size, 0, none⟩ 1 1 [.slice (some ⟨b, 0, none⟩) N.length N.length] rfl rfl ?_ ?_ ?_ ?_ ?_ ?_)
          · rfl
          · unfold maxLen; omega
          · omega
          · have h9 := hbi'; simp at h9 ⊢; omega
          · intro v' w3 hown' hgr hnil
            have hvb : o.ownBlock ≠ some b := fun e => by
              have := (hown0 _ e).2
              omega
            have hP := (hMi.alloc (.cells #[.slice (some ⟨b, 0, none⟩) N.length N.length] 34)).push hbase hold (hri.alloc _) hown' hgr hvb
            have hb3 : Below w.heap.size w w3 := (hbi.alloc hbi' _).grown hgr (by simp; omega) (fun g hg => (hown0 g hg).1)
            have hP2 := hP.congr (g := rowA N) (fun j c hj hc => by
              by_cases hjk : j = k
              · rw [if_pos hjk, hjk, rowA, ← HRK.out]
              · rw [if_neg hjk])
            clear hgr hown' hP hMi hri hbi
            go_wp2
            go_roundg (N.length - (k + 1))
            case measure => omega
            case rel => exact ⟨_, k + 1, _, rfl, congrArg (Value.int .i64) (by omega), by omega, rfl, hP2, hb3⟩
    · have hke : k = N.length := by omega
      subst hke
      have hkn' : ¬ ((N.length : Int) < N.length) := by omega
      obtain ⟨g, cap2, rfl, hg1, hg2⟩ := hM.own.form hn0
      clear hg2
      have hM0 : MatF w.heap.size wr (.slice (some ⟨g, 0, none⟩) N.length cap2) B N.length N.length (reachB N.length (zN N) 0) := hM.congr fun j c hj hc => rowA_need N j c
      clear hM hA hl h
      generalize wr.heap.size = hsz at *
      go_wp2
      clear hkn hkn'
      go_loopg [7] N.length (fun gg i wi => ∃ m : Nat, i = .int .i64 (m : Int) ∧ m ≤ N.length ∧ gg = N.length - m ∧ MatF w.heap.size wi (.slice (some ⟨g, 0, none⟩) N.length cap2) B N.length N.length (reachB N.length (zN N) m) ∧ Below w.heap.size w wi)
      case atStart => exact ⟨0, rfl, Nat.zero_le _, rfl, hM0, hb⟩
      case round =>
        obtain ⟨m, rfl, hm, rfl, hMm, hbm⟩ := hrel
        clear hM0 hb
        by_cases hmn : m < N.length
        · have hmn' : (m : Int) < N.length := by omega
          have e0 := wr2 (n := m) (by omega)
          go_wp2
          go_loopg [8] N.length (fun gg i wi => ∃ q : Nat, i = .int .i64 (q : Int) ∧ q ≤ N.length ∧ gg = N.length - q ∧ MatF w.heap.size wi (.slice (some ⟨g, 0, none⟩) N.length cap2) B N.length N.length (curM N m q 0) ∧ Below w.heap.size w wi)
          case atStart => exact ⟨0, rfl, Nat.zero_le _, rfl, hMm.congr fun j c _ _ => curM_start N m j c, hbm⟩
          case round =>
            obtain ⟨q, rfl, hq, rfl, hMq, hbq⟩ := hrel
            clear hMm hbm
            by_cases hqn : q < N.length
            · have hqn' : (q : Int) < N.length := by omega
              have e1 := wr2 (n := q) (by omega)
              go_wp2
              go_loopg [9] N.length (fun gg i wi => ∃ k : Nat, i = .int .i64 (k : Int) ∧ k ≤ N.length ∧ gg = N.length - k ∧ MatF w.heap.size wi (.slice (some ⟨g, 0, none⟩) N.length cap2) B N.length N.length (curM N m q k) ∧ Below w.heap.size w wi)
              case atStart => exact ⟨0, rfl, Nat.zero_le _, rfl, hMq, hbq⟩
              case round =>
                obtain ⟨k, rfl, hk, rfl, hMk, hbk⟩ := hrel
                clear hMq hbq
                by_cases hkn : k < N.length
                · have hkn' : (k : Int) < N.length := by omega
                  have e2 := wr2 (n := k) (by omega)
                  have c1 := hMk.head hqn
                  have c2 := hMk.head hmn
                  have c3 := (hMk.row q hqn).cell hmn
                  have c4 := (hMk.row m hmn).cell hkn
                  rw [curM_left N hqn hmn] at c3
                  rw [curM_right N hkn hmn] at c4
                  have c5 := (hMk.row q hqn).frozen k
                  have c6 := (hMk.row q hqn).cell hkn
                  generalize curM N m q k q k = z0 at c6
                  have hset := (hMk.set hqn k true)
                  have hblo := hMk.lo q hqn
                  have hbs : Below w.heap.size w (wr.setCell ⟨B q, k, none⟩ (.bool true)) := hbk.setCell (p := ⟨B q, k, none⟩) hblo _
                  have hno : (reachB N.length (zN N) m q m && reachB N.length (zN N) m m k) = false → MatF w.heap.size wr (.slice (some ⟨g, 0, none⟩) N.length cap2) B N.length N.length (curM N m q (k + 1)) := fun e => hMk.congr fun j c _ hc => curM_no N hqn hkn e j c
                  have hyes : (reachB N.length (zN N) m q m && reachB N.length (zN N) m m k) = true → MatF w.heap.size (wr.setCell ⟨B q, k, none⟩ (.bool true)) (.slice (some ⟨g, 0, none⟩) N.length cap2) B N.length N.length (curM N m q (k + 1)) := fun e => hset.congr fun j c _ hc => curM_yes N hqn hkn e j c
                  clear hset hMk
                  generalize reachB N.length (zN N) m q m = x at *
                  generalize reachB N.length (zN N) m m k = y at *
                  cases x with
                  | false =>
                    have hz := hno rfl
                    clear hno hyes hbs
                    go_wp2
                    go_roundg (N.length - (k + 1))
                    case measure => omega
                    case rel => exact ⟨k + 1, congrArg (Value.int .i64) (by omega), by omega, rfl, hz, hbk⟩
                  | true =>
                    cases y with
                    | false =>
                      have hz := hno rfl
                      clear hno hyes hbs
                      go_wp2
                      go_roundg (N.length - (k + 1))
                      case measure => omega
                      case rel => exact ⟨k + 1, congrArg (Value.int .i64) (by omega), by omega, rfl, hz, hbk⟩
                    | true =>
                      have hz := hyes rfl
                      clear hno hyes hbk
                      go_wp2
                      go_roundg (N.length - (k + 1))
                      case measure => omega
                      case rel => exact ⟨k + 1, congrArg (Value.int .i64) (by omega), by omega, rfl, hz, hbs⟩
                · have hke : k = N.length := by omega
                  subst hke
                  have hkn' : ¬ ((N.length : Int) < N.length) := by omega
                  have hz := hMk.congr (g := curM N m (q + 1) 0) fun j c _ hc => curM_next N m q j c hc
                  clear hMk
                  go_wp2
                  go_roundg (N.length - (q + 1))
                  case measure => omega
                  case rel => exact ⟨q + 1, congrArg (Value.int .i64) (by omega), by omega, rfl, hz, hbk⟩
            · have hqe : q = N.length := by omega
              subst hqe
              have hqn' : ¬ ((N.length : Int) < N.length) := by omega
              have hz := hMq.congr (g := reachB N.length (zN N) (m + 1)) fun j c hj _ => curM_end N m j c hj
              clear hMq
              go_wp2
              go_roundg (N.length - (m + 1))
              case measure => omega
              case rel => exact ⟨m + 1, congrArg (Value.int .i64) (by omega), by omega, rfl, hz, hbq⟩
        · have hme : m = N.length := by omega
          subst hme
          have hmn' : ¬ ((N.length : Int) < N.length) := by omega
          go_wp2
          go_returns
          exact ⟨B, _, rfl, hMm, hbm⟩
end Go.Proofs.Ytkfdklocgpgbfaa
namespace Go.Proofs.Ytkfdklocgpgbfaa
open Go.RowKit Go.Deep
set_option maxHeartbeats 2000000 in
set_option maxRecDepth 100000 in
theorem reach_none (a : Option Addr) (cap : Nat) (w : World) : Calls Try.prog 12 #[.slice a 0 cap] w fun e w' => e = .returned (.slice none 0 0) ∧ w' = w := by
  go_enter Try.func12, Try.ntmps12
  go_wp2
  go_loopg [3, 4] 1 (fun g o i wr => o = .slice none 0 0 ∧ i = .int .i64 0 ∧ wr = w)
  case atStart => exact ⟨rfl, rfl, rfl⟩
  case round =>
    obtain ⟨rfl, rfl, rfl⟩ := hrel
    go_wp2
    go_loopg [7] 1 (fun g i wi => i = .int .i64 0 ∧ wi = wr)
    case atStart => exact ⟨rfl, rfl⟩
    case round =>
      obtain ⟨rfl, rfl⟩ := hrel
      go_wp2
      go_returns
      exact ⟨rfl, rfl⟩
theorem nss_iss (l : List (List Int)) : nsPss (iss l) = true := by
  unfold iss
  induction l with
  | nil => rfl
  | cons n l ih => 
    rw [List.map_cons, nsPss, ih]
    show (nsPss (ivs n) && true && true) = true
    rw [nss_ivs]; rfl
theorem iss_len (l : List (List Int)) : (iss l).length = l.length := by simp [iss]
theorem ivs_len (l : List Int) : (ivs l).length = l.length := by simp [ivs]
theorem nd_get {N : List (List Nat)} {i : Nat} (h : i < N.length) : nd N i = N[i] := by
  unfold nd
  rw [List.getD_eq_getElem?_getD, List.getElem?_eq_getElem h]; rfl
/-- The rows as they lie in memory. -/
theorem nd_of {K : Kn} {w : World} {gb ob : Nat} (N : List (List Nat)) (us : Nat → Nat → Value) (hagr : ∀ g o v, K.M g o = some v → w.cell? ⟨g, o, none⟩ = some v)
    (hc : ∀ i, i < N.length → K.M gb (ob + i) = some (us i 0)) (hr : ∀ i (h : i < N.length), PR K.R K.M (.rows (ivs (zof N[i]))) (us i 0)) :
    ∃ A C Ab Ao, NdAt w gb ob N A C Ab Ao := by
  have h1 : ∀ i, ∃ x : Option Addr × Nat × Nat × Nat, i < N.length → us i 0 = .slice x.1 (nd N i).length x.2.1 ∧ ∀ q (h : q < (nd N i).length), x.1 = some ⟨x.2.2.1, x.2.2.2, none⟩ ∧ w.cell? ⟨x.2.2.1, x.2.2.2 + q, none⟩ = some (.int .i64 ((nd N i)[q] : Int)) := fun i => by
    by_cases hi : i < N.length
    · have h2 := hr i hi
      generalize hu : us i 0 = u at h2
      generalize he : ivs (zof N[i]) = es at h2
      cases h2 with
      | rows es a cap g off sz vs ha hn hsz hcl hrr =>
        refine ⟨(a, cap, g, off), fun _ => ?_⟩
        have hl : es.length = (nd N i).length := by rw [← he, ivs_len, nd_get hi]; simp [zof]
        refine ⟨by rw [hl], fun q hq => ?_⟩
        have hne : es ≠ [] := fun e => by rw [e, List.length_nil] at hl; omega
        refine ⟨ha hne, hagr _ _ _ ?_⟩
        have hq' : q < es.length := by omega
        have h1z : sz = 1 := by
          have := hsz q hq'
          rw [← this]
          simp [← he, ivs]
        subst h1z
        have h3 := hcl q hq' 0 (by omega)
        have h4 := hrr q hq' 0 (by rw [hsz q hq']; omega)
        have h5 : es[q][0]'(by rw [hsz q hq']; omega) = .lit (.int .i64 ((nd N i)[q] : Int)) := by
          subst he
          have h6 : (nd N i)[q] = N[i][q]'(by rw [nd_get hi] at hq; exact hq) := by simp only [nd_get hi]
          rw [h6]
          simp [ivs, zof]
        rw [h5] at h4
        generalize hv : vs q 0 = v at h4
        cases h4
        rw [hv, Nat.mul_one, Nat.add_zero] at h3
        exact h3
    · exact ⟨(none, 0, 0, 0), fun h => absurd h hi⟩
  obtain ⟨f, hf⟩ : ∃ f : Nat → Option Addr × Nat × Nat × Nat, ∀ i, i < N.length → us i 0 = .slice (f i).1 (nd N i).length (f i).2.1 ∧ ∀ q (h : q < (nd N i).length), (f i).1 = some ⟨(f i).2.2.1, (f i).2.2.2, none⟩ ∧ w.cell? ⟨(f i).2.2.1, (f i).2.2.2 + q, none⟩ = some (.int .i64 ((nd N i)[q] : Int)) := ⟨fun i => Classical.choose (h1 i), fun i => Classical.choose_spec (h1 i)⟩
  exact ⟨fun i => (f i).1, fun i => (f i).2.1, fun i => (f i).2.2.1, fun i => (f i).2.2.2, fun i hi => by rw [← (hf i hi).1]; exact hagr _ _ _ (hc i hi), fun i hi q hq => (hf i hi).2 q hq⟩
theorem bvs_len (l : List Bool) : (bvs l).length = l.length := by simp [bvs]
theorem bss_len (l : List (List Bool)) : (bss l).length = l.length := by simp [bss]
theorem rb_len (N : List (List Nat)) : (rbRows N).length = N.length := by simp [rbRows]
theorem sem_rch (N : List (List Nat)) (hr : Rng N) (hn : N.length ≤ 100000) (hl : ∀ i, i < N.length → (nd N i).length ≤ 1000000000) :
    Sem Try.prog 12 [.pv (zss (N.map zof))] [] (.pv (.rows (bss (rbRows N)))) [] := fun R K w us hR W hv => by
  obtain ⟨hvl, hvv⟩ := hv
  cases us with
  | nil => cases hvl
  | cons u us =>
  cases us with
  | cons _ _ => simp at hvl
  | nil =>
  have hv0 := hvv 0 (by simp) (by simp)
  simp only [List.getElem_cons_zero] at hv0
  cases hv0 with
  | pv hp =>
  unfold zss at hp
  generalize hes : iss (N.map zof) = es at hp
  have hel : es.length = N.length := by rw [← hes, iss_len, List.length_map]
  have hat : ∀ i (h : i < es.length), es[i] = [.rows (ivs (zof (N[i]'(by omega))))] := fun i h => by
    subst hes
    simp [iss]
  cases hp with
  | rows es a cap g off sz us ha hn2 hsz hc hrr =>
  by_cases h0 : N.length = 0
  · have h0' : es.length = 0 := by omega
    rw [h0']
    refine (reach_none a cap w).mono fun e w' ⟨he, hw⟩ => ?_
    subst he hw
    have hN : rbRows N = [] := List.eq_nil_of_length_eq_zero (by rw [rb_len]; exact h0)
    refine ⟨K, ⟨_, rfl, .pv ?_⟩, Step.refl W⟩
    rw [hN]
    exact PR.rows [] none 0 0 0 1 (fun _ _ => .bool false) (fun h => absurd rfl h) (Nat.le_refl _) (fun i hi => absurd hi (Nat.not_lt_zero _)) (fun i hi => absurd hi (Nat.not_lt_zero _)) (fun i hi => absurd hi (Nat.not_lt_zero _))
  · have hne : es ≠ [] := fun e => by rw [e, List.length_nil] at hel; omega
    have ha' := ha hne
    subst ha'
    have h1z : sz = 1 := by
      have := hsz 0 (by omega)
      rw [hat 0 (by omega)] at this
      exact this.symm
    subst h1z
    obtain ⟨A, C, Ab, Ao, hA⟩ := nd_of (K := K) (w := w) (gb := g) (ob := off) N us W.agr (fun i hi => by
      have := hc i (by omega) 0 (by omega)
      rwa [Nat.mul_one, Nat.add_zero] at this) (fun i hi => by
      have h4 := hrr i (by omega) 0 (by rw [hsz i (by omega)]; omega)
      have h5 : es[i][0]'(by rw [hsz i (by omega)]; omega) = .rows (ivs (zof N[i])) := by
        have := hat i (by omega)
        simp [this]
      rwa [h5] at h4)
    rw [hel]
    refine (reach_any g off cap N A C Ab Ao w hr (by omega) hn (fun i hi => by have := hl i hi; omega) hA).mono fun e w' ⟨B, v, he, hM, hb⟩ => ?_
    subst he
    obtain ⟨K', hst, hKR, hnew, _⟩ := Step.known W (frm_below hb) (fun gg o => if w.heap.size ≤ gg then w'.cell? ⟨gg, o, none⟩ else none) (fun gg o v hm3 => by
      by_cases hgg : w.heap.size ≤ gg
      · rw [if_pos hgg] at hm3
        exact ⟨hgg, hm3⟩
      · rw [if_neg hgg] at hm3; cases hm3)
    obtain ⟨gv, cv, hve, hgv, hcv⟩ : ∃ gv cv, v = .slice (some ⟨gv, 0, none⟩) N.length cv ∧ w.heap.size ≤ gv ∧ N.length ≤ cv := by
      rcases hM.own.2 with ⟨_, h9⟩ | ⟨g9, cap9, cur, h8, h9, _, h7, _⟩
      · omega
      · exact ⟨g9, cap9, h8, h9, h7⟩
    subst hve
    refine ⟨K', ⟨_, rfl, ?_⟩, hst⟩
    have hbl : (bss (rbRows N)).length = N.length := by rw [bss_len, rb_len]
    have hba : ∀ i (h : i < (bss (rbRows N)).length), (bss (rbRows N))[i] = [.rows (bvs ((List.range N.length).map fun k => RB N i k))] := fun i h => by simp [bss, rbRows]
    have hpr := PR.rows (R := K'.R) (M := K'.M) (bss (rbRows N)) (some ⟨gv, 0, none⟩) cv gv 0 1 (fun i _ => .slice (some ⟨B i, 0, none⟩) N.length N.length) (fun _ => rfl) (by omega) (fun i hi => by rw [hba i hi]; rfl) (fun i hi j hj => by
      refine hnew _ _ _ ?_
      have hj0 : j = 0 := by omega
      subst hj0
      rw [if_pos hgv, Nat.zero_add, Nat.mul_one, Nat.add_zero]
      exact hM.head (by omega)) (fun i hi j hj => by
      have hj0 : j = 0 := by rw [hba i hi] at hj; simpa using hj
      subst hj0
      have h5 : (bss (rbRows N))[i][0]'hj = .rows (bvs ((List.range N.length).map fun k => RB N i k)) := by
        have := hba i hi
        simp [this]
      rw [h5]
      have hin : i < N.length := by omega
      have hl2 : (bvs ((List.range N.length).map fun k => RB N i k)).length = N.length := by simp [bvs]
      have h6 := PR.rows (R := K'.R) (M := K'.M) (bvs ((List.range N.length).map fun k => RB N i k)) (some ⟨B i, 0, none⟩) N.length (B i) 0 1 (fun c _ => .bool (RB N i c)) (fun _ => rfl) (by omega) (fun c hc => by simp [bvs]) (fun c hc q hq => by
        refine hnew _ _ _ ?_
        have hq0 : q = 0 := by omega
        subst hq0
        rw [if_pos (hM.lo i hin), Nat.zero_add, Nat.mul_one, Nat.add_zero]
        exact (hM.row i hin).cell (by omega)) (fun c hc q hq => by
        have hq0 : q = 0 := by simp [bvs] at hq; omega
        subst hq0
        have h7 : (bvs ((List.range N.length).map fun k => RB N i k))[c][0]'hq = .lit (.bool (RB N i c)) := by simp [bvs]
        rw [h7]
        exact .lit _ rfl)
      rw [hl2] at h6
      exact h6)
    rw [hbl] at hpr
    exact .pv hpr
section
variable {P : Program} {S : Nat → List Shape} {E : Nat → Ent} {T : Nat → Et} {k m : Nat}
theorem ns_bss (l : List (List Bool)) : NS (.rows (bss l)) := .rows _ fun c hc p hp => by
  obtain ⟨x, _, rfl⟩ := List.mem_map.1 hc
  rw [List.mem_singleton.1 hp]
  exact .rows _ fun c hc p hp => by
    obtain ⟨x, _, rfl⟩ := List.mem_map.1 hc
    rw [List.mem_singleton.1 hp]; exact .lit _
theorem ext_rchP (hE : E k = { f := 12, args := [.pv (.sym 0)], n := 1, fam := m }) (hS : S m = [{ v := .pv (.sym 0), m := 1 }]) (hT : T k = .ext rchP) : RuleOk Try.prog S E T k := by
  refine RuleOk.ext (by rw [hE]) hT fun l r hp hr => ?_
  unfold rchP at hr
  split at hr
  · rename_i es
    split at hr
    · rename_i needs hz
      split at hr
      · rename_i hc
        cases hr
        have he := iss_of hz
        obtain ⟨N, hN, hrng⟩ := needs_nat hc.1
        have hlen : ∀ i, i < N.length → (nd N i).length ≤ 1000000000 := fun i hi => by
          have h1 := List.all_eq_true.1 hc.2.2 (zof N[i]) (by rw [hN]; exact List.mem_map_of_mem (List.getElem_mem hi))
          have h2 := of_decide_eq_true h1
          rw [nd_get hi]
          simpa [zof] using h2
        have hrr : reachRows needs = rbRows N := by
          rw [hN]
          unfold reachRows rbRows RB
          rw [List.length_map]; rfl
        refine ⟨?_, ?_, ?_, ?_, ?_⟩
        · unfold SemQ shp
          simp only [hE, hS, hrr]
          have h3 := sem_rch N hrng (by rw [hN] at hc; simpa using hc.2.1) hlen
          rw [← hN, zss, ← he] at h3
          exact h3
        · simp only [hE, hS]; decide
        · simp only [hE, hS]; rfl
        · intro p hp'
          rw [List.mem_singleton.1 hp']
          exact ns_bss _
        · simp only [hE, hS]
          exact fun i hi => by cases hi
      · cases hr
    · cases hr
  · cases hr
end
end Go.Proofs.Ytkfdklocgpgbfaa
