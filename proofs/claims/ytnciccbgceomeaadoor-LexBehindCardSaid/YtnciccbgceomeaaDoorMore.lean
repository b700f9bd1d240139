/- The scanner's state in memory; what 'more' does: it goes on as long as bytes are such. -/
import Derived.Test.YtnciccbgceomeaaDoorWords
import Derived.Deep.LoopGhost
import Derived.Deep.QuietTactic
import Derived.BigQuiet
namespace Go.Proofs.YtnciccbgceomeaaDoor
open Go.RowKit

theorem grown_refl (w : World) (r : Option Nat) : w.grownBy w r := ⟨rfl, rfl, rfl, Nat.le_refl _, fun _ _ _ => rfl⟩
theorem grown_trans {a b c : World} {r : Option Nat} (h : a.grownBy b r) (k : b.grownBy c r) : a.grownBy c r :=
  ⟨k.os.trans h.os, k.tape.trans h.tape, k.output.trans h.output, Nat.le_trans h.size k.size, fun i hi hr => (k.block i (Nat.lt_of_lt_of_le hi h.size) hr).trans (h.block i hi hr)⟩
theorem grown_drew {a b : World} {r : Option Nat} (h : a.grownBy b r) : a.grownBy b.drew r := ⟨h.os, h.tape, h.output, h.size, h.block⟩
theorem grown_drewN {a b : World} {r : Option Nat} (h : a.grownBy b r) (n : Nat) : a.grownBy (b.drewN n) r := ⟨h.os, h.tape, h.output, h.size, h.block⟩
theorem grown_setCell {a b : World} {k : Nat} (h : a.grownBy b (some k)) (o : Nat) (u : Value) : a.grownBy (b.setCell ⟨k, o, none⟩ u) (some k) :=
  grown_trans h ⟨rfl, rfl, rfl, by simp [World.setCell], fun i _ hr => Below.heap_setCell _ _ _ _ (fun e => hr (by rw [e]))⟩

/-- The scanner's block: its source, its place, its tokens. -/
def Blk (w : World) (b : Nat) (s : ByteArray) (k : Nat) (v : Value) : Prop := w.heap[b]? = some (.cells #[.string s, .int .i64 (k : Int), v] 39 (0, 0))
theorem Blk.c0 {w : World} {b k : Nat} {s : ByteArray} {v : Value} (h : Blk w b s k v) : w.cell? ⟨b, 0, none⟩ = some (.string s) := by simp [World.cell?, show w.heap[b]? = _ from h]
theorem Blk.c1 {w : World} {b k : Nat} {s : ByteArray} {v : Value} (h : Blk w b s k v) : w.cell? ⟨b, 1, none⟩ = some (.int .i64 (k : Int)) := by simp [World.cell?, show w.heap[b]? = _ from h]
theorem Blk.c2 {w : World} {b k : Nat} {s : ByteArray} {v : Value} (h : Blk w b s k v) : w.cell? ⟨b, 2, none⟩ = some v := by simp [World.cell?, show w.heap[b]? = _ from h]
theorem Blk.f {w : World} {b k : Nat} {s : ByteArray} {v : Value} (h : Blk w b s k v) (o : Nat) : w.frozen? ⟨b, o, none⟩ = false := by simp [World.frozen?, show w.heap[b]? = _ from h]
theorem Blk.drewN {w : World} {b k : Nat} {s : ByteArray} {v : Value} (h : Blk w b s k v) (n : Nat) : Blk (w.drewN n) b s k v := h
theorem Blk.lt {w : World} {b k : Nat} {s : ByteArray} {v : Value} (h : Blk w b s k v) : b < w.heap.size := lt_of_block h
theorem Blk.set1 {w : World} {b k : Nat} {s : ByteArray} {v : Value} (h : Blk w b s k v) (j : Nat) : Blk (w.setCell ⟨b, 1, none⟩ (.int .i64 (j : Int))) b s j v := by
  have hlt := lt_of_block h
  have h' : w.heap[b] = .cells #[.string s, .int .i64 (k : Int), v] 39 (0, 0) := by have := h; unfold Blk at this; simpa [Array.getElem?_eq_getElem hlt] using this
  show (w.heap.modify b _)[b]? = _
  rw [Array.getElem?_eq_getElem (by simpa using hlt), Array.getElem_modify_self, h']
  rfl
theorem Blk.set2 {w : World} {b k : Nat} {s : ByteArray} {v : Value} (h : Blk w b s k v) (u : Value) : Blk (w.setCell ⟨b, 2, none⟩ u) b s k u := by
  have hlt := lt_of_block h
  have h' : w.heap[b] = .cells #[.string s, .int .i64 (k : Int), v] 39 (0, 0) := by have := h; unfold Blk at this; simpa [Array.getElem?_eq_getElem hlt] using this
  show (w.heap.modify b _)[b]? = _
  rw [Array.getElem?_eq_getElem (by simpa using hlt), Array.getElem_modify_self, h']
  rfl

/-- A callee that leaves all as it is, inside a region that draws its order. -/
theorem quiet_same {P : Program} {f : FuncId} {args : Array Value} {w : World} {n : Nat} {v : Value}
    (h : Calls P f args (w.drewN n) fun e w' => e = .returned v ∧ w.drewN n = w') : Calls P f args (w.drewN n) fun e w'' => e = .returned v ∧ ∃ m, w'' = w.drewN m :=
  h.mono fun _ _ ⟨he, hm⟩ => ⟨he, n, hm.symm⟩

/-- How far bytes are such, from a place on. -/
def adv (p : UInt8 → Bool) (s : ByteArray) (k : Nat) : Nat := k + ((s.data.toList.drop k).takeWhile p).length

theorem takeWhile_split (p : UInt8 → Bool) : ∀ (l : List UInt8) (n : Nat), n ≤ l.length → (∀ i (h : i < l.length), i < n → p l[i] = true) → (∀ h : n < l.length, p l[n] = false) → (l.takeWhile p).length = n
  | [], n, hn, _, _ => by simp at hn; simp [hn]
  | c :: r, 0, _, _, h => by
    have := h (by simp)
    simp at this
    simp [this]
  | c :: r, n + 1, hn, ha, h => by
    have h0 : p c = true := ha 0 (by simp) (by omega)
    have ih := takeWhile_split p r n (by simpa using hn) (fun i hi hin => by have := ha (i + 1) (by simpa using hi) (by omega); simpa using this) (fun hlt => by have := h (by simpa using hlt); simpa using this)
    simp [h0, ih]

theorem adv_eq {p : UInt8 → Bool} {s : ByteArray} {k j : Nat} (hkj : k ≤ j) (hj : j ≤ s.size) (ha : ∀ i (h : i < s.size), k ≤ i → i < j → p s[i] = true) (he : ∀ h : j < s.size, p s[j] = false) : adv p s k = j := by
  have hl : s.data.toList.length = s.size := rfl
  have := takeWhile_split p (s.data.toList.drop k) (j - k) (by simp only [List.length_drop]; omega)
    (fun i hi hin => by
      have hi' : k + i < s.size := by simp only [List.length_drop] at hi; omega
      have := ha (k + i) hi' (by omega) (by omega)
      simp only [List.getElem_drop]
      exact this)
    (fun hlt => by
      have hlt' : j < s.size := by simp only [List.length_drop] at hlt; omega
      have := he hlt'
      have e : k + (j - k) = j := by omega
      simp only [List.getElem_drop, e]
      exact this)
  unfold adv
  omega

set_option maxHeartbeats 1000000 in
/-- 'more', at a function of one byte. -/
theorem more_any (f : Nat) (p : UInt8 → Bool) (hf : ByteFn f p) (b k : Nat) (s : ByteArray) (v : Value) (w : World) (hb : Blk w b s k v) (hk : k ≤ s.size) (hs : s.size ≤ 1000000) :
    Calls Tryd.prog 39 #[.pointer (some ⟨b, 0, none⟩), .func (.func f) #[] #[]] w fun e w' => e = .returned (.string (s.extract k (adv p s k))) ∧ Blk w' b s (adv p s k) v ∧ w.grownBy w' (some b) := by
  obtain ⟨hcf, hf⟩ := hf
  have HF := Lib.hid hf
  clear hf
  have hc1 := hb.c1
  go_enter Tryd.func39, Tryd.ntmps39
  go_wp2_with fail
  go_loopg [] (s.size - k) (fun g wr => ∃ j : Nat, k ≤ j ∧ j ≤ s.size ∧ s.size - j = g ∧ Blk wr b s j v ∧ w.grownBy wr (some b) ∧ ∀ i (h : i < s.size), k ≤ i → i < j → p s[i] = true)
  case atStart => exact ⟨k, Nat.le_refl _, hk, rfl, hb, grown_refl _ _, fun i _ h1 h2 => by omega⟩
  case round =>
    obtain ⟨j, hkj, hj, hg, hbj, hgr, hall⟩ := hrel
    have HG := Lib.hid hg
    have HA := Lib.hid hall
    clear hg hall hc1
    have c0 := hbj.c0
    have c1 := hbj.c1
    by_cases hlt : j < s.size
    · have hd : decide ((j : Int) < (s.size : Int)) = true := by simp; omega
      cases hi : p s[j]
      all_goals go_wp2_with fail
      all_goals go_quiet (exact quiet_same (HF.out _ _))
      · have HE := Lib.hid (adv_eq hkj hj HA.out (fun _ => hi))
        have hb2 := hbj.drewN nq
        have hg2 := grown_drewN hgr nq
        clear c0 c1 hbj hgr
        generalize wr.drewN nq = w2 at *
        have c0 := hb2.c0
        have c1 := hb2.c1
        go_wp2_with fail
        go_quiet (fail)
        go_wp2_with fail
        go_ret
        rw [HE.out]
        exact ⟨rfl, hb2.drewN _, grown_drewN hg2 _⟩
      · have hb2 := hbj.drewN nq
        have hg2 := grown_drewN hgr nq
        clear c0 c1 hbj hgr
        generalize wr.drewN nq = w2 at *
        have c0 := hb2.c0
        have c1 := hb2.c1
        have f1 := hb2.f 1
        go_wp2_with fail
        go_roundg (s.size - (j + 1))
        case measure => have := HG.out; omega
        case rel =>
          refine ⟨j + 1, by omega, by omega, rfl, hb2.set1 (j + 1), grown_setCell hg2 _ _, ?_⟩
          intro i h1 h2 h3
          by_cases e : i = j
          · subst e; exact hi
          · exact HA.out i h1 h2 (by omega)
    · have hd : decide ((j : Int) < (s.size : Int)) = false := by simp; omega
      have HE := Lib.hid (adv_eq (p := p) hkj hj HA.out (fun h => absurd h hlt))
      go_wp2_with fail
      go_quiet (fail)
      have hb2 := hbj.drewN nq
      have hg2 := grown_drewN hgr nq
      clear c0 c1 hbj hgr
      generalize wr.drewN nq = w2 at *
      have c0 := hb2.c0
      have c1 := hb2.c1
      go_wp2_with fail
      go_quiet (fail)
      go_wp2_with fail
      go_ret
      rw [HE.out]
      exact ⟨rfl, hb2.drewN _, grown_drewN hg2 _⟩

end Go.Proofs.YtnciccbgceomeaaDoor
