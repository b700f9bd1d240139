/- What 'put' does: it appends a token, or says that its text is too long. -/
import Derived.Test.YtnciccbgceomeaaDoorSkip
namespace Go.Proofs.YtnciccbgceomeaaDoor
open Go.RowKit

/-- A token. -/
structure Tok where
  kind : Int
  text : ByteArray
  n : Int
  at_ : Nat
def Tok.cells (t : Tok) : List Value := [.int .i64 t.kind, .string t.text, .int .i64 t.n, .int .i64 (t.at_ : Int)]
def tokCells (ts : List Tok) : List Value := ts.flatMap Tok.cells
theorem tokCells_snoc (ts : List Tok) (t : Tok) : tokCells (ts ++ [t]) = tokCells ts ++ t.cells := by simp [tokCells]

/-- The scanner, with what it has put so far. -/
def Sc (w : World) (b : Nat) (s : ByteArray) (k : Nat) (ts : List Tok) : Prop := ∃ v, Blk w b s k v ∧ w.ownsRow (b + 1) 35 4 v ts.length (tokCells ts)

theorem Sc.moved {w w' : World} {b k' : Nat} {s : ByteArray} {ts : List Tok} {v : Value} (ho : w.ownsRow (b + 1) 35 4 v ts.length (tokCells ts)) (hb' : Blk w' b s k' v) (hg : w.grownBy w' (some b)) : Sc w' b s k' ts := by
  refine ⟨v, hb', ho.kept hg ?_⟩
  cases hv : v.ownBlock with
  | none => exact .inl rfl
  | some g => exact .inr (fun e => by have := (ho.lt g hv).1; cases e; omega)
theorem below_of_grown {w w' : World} {b : Nat} (hg : w.grownBy w' (some b)) (hb : b ≤ w.heap.size) : Below b w w' :=
  (Below.refl b w).grown hg hb (fun k hk => by cases hk; exact Nat.le_refl _)

theorem info35 : (Tryd.prog.info? 35).map (fun i => (i.zero, i.size, i.bytes)) = some (some (.agg #[.int .i64 0, .string ⟨#[]⟩, .int .i64 0, .int .i64 0]), 4, 40) := by kernel_rfl

/-- A block that has just been laid: its cells. -/
theorem cells_new (w : World) (xs : List Value) (t : TypeId) : ∀ (j : Nat) (u : Value), xs[j]? = some u → (w.alloc (.cells xs.toArray t)).cell? ((⟨w.heap.size, 0, none⟩ : Addr).add j) = some u := by
  intro j u h
  have hadd : (⟨w.heap.size, 0, none⟩ : Addr).add j = ⟨w.heap.size, j, none⟩ := by unfold Addr.add; split <;> simp_all
  rw [hadd, cell_of_row _ w.heap.size j xs.toArray t (0, 0) (heap_alloc_new w _)]
  simpa using h
theorem tok_one (t : Tok) : ∀ u, u ∈ t.cells → u.oneCell' = true := by
  intro u h
  simp [Tok.cells] at h
  rcases h with rfl | rfl | rfl | rfl <;> rfl
theorem owned_some {w : World} {base : Nat} {e : TypeId} {size : Nat} {v : Value} {n : Nat} {xs : List Value} (h : w.ownsRow base e size v (n + 1) xs) : ∃ g cap, v = .slice (some ⟨g, 0, none⟩) (n + 1) cap := by
  rcases h.2 with ⟨_, h0⟩ | ⟨g, cap, _, hv, _⟩
  · omega
  · exact ⟨g, cap, hv⟩
theorem Blk.later {w w1 : World} {b k : Nat} {s : ByteArray} {v : Value} (h : Blk w b s k v) (o : Obj) {r : Option Nat} (hg : (w.alloc o).grownBy w1 r) (hr : r ≠ some b) : Blk w1 b s k v := by
  unfold Blk at *
  rw [hg.block b (by have := lt_of_block h; simp; omega) (fun e => hr e.symm), Below.heap_alloc w o b (lt_of_block h)]
  exact h
theorem own_ne {w : World} {b : Nat} {v : Value} {n : Nat} {xs : List Value} (ho : w.ownsRow (b + 1) 35 4 v n xs) : v.ownBlock ≠ some b := by
  intro e
  have := (ho.lt b e).1
  omega

set_option maxHeartbeats 400000 in
theorem put_long (b : Nat) (kind n : Int) (text : ByteArray) (at_ : Int) (w : World) (h3 : kind ≠ 3) (h4 : kind ≠ 4) (hl : 40 < (text.size : Int)) :
    Calls Tryd.prog 24 #[.pointer (some ⟨b, 0, none⟩), .int .i64 kind, .string text, .int .i64 n, .int .i64 at_] w fun e w' => e = .returned (.int .i64 104) ∧ w = w' := by
  have h3' : (kind != 3) = true := by simp [h3]
  have h4' : (kind != 4) = true := by simp [h4]
  go_enter Tryd.func24, Tryd.ntmps24
  go_wp2
  go_ret
  exact ⟨rfl, rfl⟩

set_option maxHeartbeats 1000000 in
theorem put_any (b : Nat) (s : ByteArray) (k : Nat) (ts : List Tok) (kind n : Int) (text : ByteArray) (at_ : Nat) (w : World) (hsc : Sc w b s k ts) (hts : ts.length ≤ 1000000)
    (h : kind = 3 ∨ kind = 4 ∨ (text.size : Int) ≤ 40) :
    Calls Tryd.prog 24 #[.pointer (some ⟨b, 0, none⟩), .int .i64 kind, .string text, .int .i64 n, .int .i64 (at_ : Int)] w fun e w' => e = .returned (.int .i64 0) ∧ Sc w' b s k (ts ++ [⟨kind, text, n, at_⟩]) ∧ Below b w w' := by
  obtain ⟨v, hb, ho⟩ := hsc
  obtain ⟨i0, hi, hz0, hz1, hz2⟩ := info_parts info35
  have c2 := hb.c2
  have hlt := hb.lt
  have hcase : (kind != 3) = false ∨ ((kind != 3) = true ∧ (kind != 4) = false) ∨ ((kind != 3) = true ∧ (kind != 4) = true ∧ (text.size : Int) ≤ 40) := by
    simp only [bne_iff_ne, bne_eq_false_iff_eq]
    omega
  clear h
  rcases hcase with h3 | ⟨h3, h4⟩ | ⟨h3, h4, h40⟩
  all_goals
    go_enter Tryd.func24, Tryd.ntmps24
    go_wp2_with (at_builtin; refine wpList_append_own _ rfl _ _ 23 rfl (b + 1) 35 i0 (.agg #[.int .i64 0, .string ⟨#[]⟩, .int .i64 0, .int .i64 0]) 4 40 Tryd.underlying23 hi hz0 hz1 hz2 rfl (by decide) v ts.length (tokCells ts) rfl (ho.alloc _) ⟨w.heap.size, 0, none⟩ 1 1 (Tok.cells ⟨kind, text, n, at_⟩) rfl rfl ?_ ?_ ?_ ?_ ?_ ?_)
    · exact cells_new w (Tok.cells ⟨kind, text, n, at_⟩) 35
    · exact tok_one _
    · unfold maxLen; omega
    · omega
    · simp; omega
    · intro v' w1 ho' hgr _
      have hne := own_ne ho
      have hb1 := hb.later _ hgr hne
      have hbl : Below b w w1 := ((Below.refl b w).alloc (by omega) _).grown hgr (by simp; omega) (fun g hg => by have := (ho.lt g hg).1; omega)
      obtain ⟨g, cap, hv⟩ := owned_some ho'
      rw [hv] at ho' ⊢
      have f2 := hb1.f 2
      have c2' := hb1.c2
      have HO := Lib.hid ho'
      have HG := Lib.hid hgr
      clear c2 ho hb ho' hgr hv
      go_wp2
      go_ret
      refine ⟨rfl, ⟨_, hb1.set2 _, ?_⟩, hbl.setCell (Nat.le_refl _) _⟩
      rw [tokCells_snoc, List.length_append]
      exact ownsRow_setCell_below HO.out (by simp) _

end Go.Proofs.YtnciccbgceomeaaDoor
