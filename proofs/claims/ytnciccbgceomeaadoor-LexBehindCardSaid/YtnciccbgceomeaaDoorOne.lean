/- What 'one' does: it puts the next token. -/
import Derived.Test.YtnciccbgceomeaaDoorText2
import Derived.StillTailTactics
import Derived.IntWalk
namespace Go.Proofs.YtnciccbgceomeaaDoor
open Go.RowKit

def symR (s : ByteArray) (k : Nat) : Except Int (Tok × Nat) := putR (if markB (s.extract k (adv symB s k)) = true then 7 else 5) (s.extract k (adv symB s k)) 0 k (adv symB s k)
def oneR (s : ByteArray) (k : Nat) (c : UInt8) : Except Int (Tok × Nat) :=
  if lowB c = true ∨ upB c = true then wordR s k
  else if digitB c = true then numR s k
  else if c.toNat = 34 then textR s k
  else if symB c = true then symR s k
  else if markB (s.extract k (k + 1)) = true then putR 7 (s.extract k (k + 1)) 0 k (k + 1)
  else .error 101

theorem Sc.drewN {w : World} {b k : Nat} {s : ByteArray} {ts : List Tok} (h : Sc w b s k ts) (n : Nat) : Sc (w.drewN n) b s k ts := h
theorem below_drewN' {B : Nat} {a w : World} (h : Below B a w) (n : Nat) : Below B a (w.drewN n) := ⟨h.os, h.tape, h.output, h.size, h.block⟩

set_option maxHeartbeats 1000000 in
set_option maxRecDepth 100000 in
theorem one_any (b k : Nat) (s : ByteArray) (ts : List Tok) (w : World) (hsc : Sc w b s k ts) (hk : k < s.size) (hs : s.size ≤ 100000) (hts : ts.length ≤ 1000000) :
    Calls Tryd.prog 23 #[.pointer (some ⟨b, 0, none⟩)] w (Got w b s ts (oneR s k s[k])) := by
  have hsc0 := hsc
  obtain ⟨v, hb, ho⟩ := hsc
  have c0 := hb.c0
  have c1 := hb.c1
  have hbw : b < w.heap.size := hb.lt
  go_enter Tryd.func23, Tryd.ntmps23
  go_wp2_with fail
  go_quiet (fail)
  have hsc1 := hsc0.drewN nq
  have hbl := below_drewN' (Below.refl b w) nq
  clear c0 c1 hb ho hsc0
  generalize w.drewN nq = w1 at *
  cases h1 : lowB s[k]
  · cases h2 : upB s[k]
    · cases h3 : digitB s[k]
      · by_cases h34 : s[k].toNat = 34
        · have t34 : ((s[k].toNat : Int) == 34) = true := by simp [h34]
          have HR : Hid (oneR s k s[k] = textR s k) := by
            show oneR s k s[k] = textR s k
            unfold oneR; simp [h1, h2, h3, h34]
          clear h34
          go_wp2_with (first | (go_at_call 28; refine (low_any _ _).mono ?_; rintro e w' ⟨rfl, rfl⟩) | (go_at_call 31; refine (up_any _ _).mono ?_; rintro e w' ⟨rfl, rfl⟩) | (go_at_call 43; refine (digit_any _ _).mono ?_; rintro e w' ⟨rfl, rfl⟩))
          refine (text_any b k s ts _ hsc1 hk hs hts).mono ?_
          rintro e w2 hgot
          obtain ⟨c, rfl⟩ := hgot.is
          have HGOT := Lib.hid hgot
          clear hgot
          go_wp2_with fail
          go_ret
          rw [HR.out]
          exact Got.after hbl HGOT.out
        · have t34 : ((s[k].toNat : Int) == 34) = false := by simp; omega
          cases h4 : symB s[k]
          · go_wp2_with (first | (go_at_call 28; refine (low_any _ _).mono ?_; rintro e w' ⟨rfl, rfl⟩) | (go_at_call 31; refine (up_any _ _).mono ?_; rintro e w' ⟨rfl, rfl⟩) | (go_at_call 43; refine (digit_any _ _).mono ?_; rintro e w' ⟨rfl, rfl⟩) | (go_at_call 33; refine (symbol_any _ _).mono ?_; rintro e w' ⟨rfl, rfl⟩))
            obtain ⟨v, hb, ho⟩ := hsc1
            have c0 := hb.c0
            have c1 := hb.c1
            cases h5 : markB (s.extract k (k + 1))
            · have HR : Hid (oneR s k s[k] = .error 101) := by
                show oneR s k s[k] = .error 101
                unfold oneR; simp [h1, h2, h3, h34, h4, h5]
              have hw1 : IntKind.i64.wrap ((k : Int) + 1) = (k : Int) + 1 := IntWalk.i64_in _ (by omega)
              have hw2 : 0 ≤ (k : Int) + 1 := by omega
              have hw3 : ((k : Int) + 1).toNat = k + 1 := by omega
              go_quiet (exact quiet_same (mark_any _ _))
              rw [h5]
              clear c0 c1 hw1 hw2 hw3
              go_wp2_with fail
              go_ret
              rw [HR.out]
              exact ⟨rfl, below_drewN' hbl _⟩
            · have HR : Hid (oneR s k s[k] = putR 7 (s.extract k (k + 1)) 0 k (k + 1)) := by
                show oneR s k s[k] = _
                unfold oneR; simp [h1, h2, h3, h34, h4, h5]
              have hw1 : IntKind.i64.wrap ((k : Int) + 1) = (k : Int) + 1 := IntWalk.i64_in _ (by omega)
              have hw2 : 0 ≤ (k : Int) + 1 := by omega
              have hw3 : ((k : Int) + 1).toNat = k + 1 := by omega
              go_quiet (exact quiet_same (mark_any _ _))
              rw [h5]
              have hb2 := hb.drewN nq
              have ho2 : (w1.drewN nq).ownsRow (b + 1) 35 4 v ts.length (tokCells ts) := ho
              have hbl2 := below_drewN' hbl nq
              clear c0 c1 hw1 hw2 hw3 hb ho hbl
              generalize w1.drewN nq = w2 at *
              have c1 := hb2.c1
              have f1 := hb2.f 1
              go_wp2_with fail
              have hb3 := hb2.set1 (k + 1)
              rw [Int.natCast_add] at hb3
              have ho3 := ownsRow_setCell_below ho2 (a := ⟨b, 1, none⟩) (by simp) (.int .i64 ((k : Int) + 1))
              have hbl3 := hbl2.setCell (p := ⟨b, 1, none⟩) (Nat.le_refl _) (.int .i64 ((k : Int) + 1))
              have em : ((k : Int) + 1) = ((k + 1 : Nat) : Int) := by omega
              rw [show ((1 : Nat) : Int) = 1 from rfl] at hb3
              clear c1 f1 hb2 ho2 hbl2
              generalize (w2.setCell ⟨b, 1, none⟩ (.int .i64 ((k : Int) + 1))) = w3 at *
              have c0 := hb3.c0
              have c1 := hb3.c1
              rw [← em] at c1
              clear em
              have hw1 : IntKind.i64.wrap (k : Int) = (k : Int) := IntWalk.i64_in _ (by omega)
              have hw2 : 0 ≤ (k : Int) + 1 := by omega
              have hw3 : ((k : Int) + 1).toNat = k + 1 := by omega
              have hsl : ∀ wx : World, (Instr.slice 9 (.string s) (some (.int .i64 (k : Int))) (some (.int .i64 ((k : Int) + 1))) none).run Tryd.prog wx = .ok (.string (s.extract k (k + 1))) wx := by
                intro wx
                have := run_slice_string (P := Tryd.prog) wx 9 s .i64 .i64 (k : Int) ((k : Int) + 1) Tryd.underlying9 (by omega) (by omega) (by omega)
                rwa [hw3] at this
              go_still_tail 20, (by kernel_rfl)
              change wpList _ _ _ _ _ w3.drew
              have hsc4 : Sc w3.drew b s (k + 1) ts := ⟨v, hb3, ho3⟩
              have hbl4 : Below b w w3.drew := hbl3.drew
              clear c0 c1 hw1 hw2 hw3 hb3 ho3 hbl3 hsl
              generalize w3.drew = w4 at *
              go_wp2_with fail
              refine (put_got b s (k + 1) ts _ _ _ k _ hsc4 hts).mono ?_
              rintro e w5 hgot
              obtain ⟨c, rfl⟩ := hgot.is
              have HGOT := Lib.hid hgot
              clear hgot
              go_wp2_with fail
              go_ret
              rw [HR.out]
              exact Got.after hbl4 HGOT.out
          · have HR : Hid (oneR s k s[k] = symR s k) := by
              show oneR s k s[k] = symR s k
              unfold oneR; simp [h1, h2, h3, h34, h4]
            obtain ⟨v, hb, ho⟩ := hsc1
            have c1 := hb.c1
            go_wp2_with (first | (go_at_call 28; refine (low_any _ _).mono ?_; rintro e w' ⟨rfl, rfl⟩) | (go_at_call 31; refine (up_any _ _).mono ?_; rintro e w' ⟨rfl, rfl⟩) | (go_at_call 43; refine (digit_any _ _).mono ?_; rintro e w' ⟨rfl, rfl⟩) | (go_at_call 33; refine (symbol_any _ _).mono ?_; rintro e w' ⟨rfl, rfl⟩))
            refine (more_any 33 symB symbol_fn b k s v _ hb (by omega) (by omega)).mono ?_
            rintro e w2 ⟨rfl, hb1, hg1⟩
            have hsc2 := Sc.moved ho hb1 hg1
            have hbl2 := hbl.trans (below_of_grown hg1 (Nat.le_of_lt hb.lt))
            have HS : Hid (symR s k = putR (if markB (s.extract k (adv symB s k)) = true then 7 else 5) (s.extract k (adv symB s k)) 0 k (adv symB s k)) := rfl
            clear hb1 hg1 ho hb c1 hbl
            generalize s.extract k (adv symB s k) = x at *
            generalize adv symB s k = j at *
            cases h5 : markB x
            all_goals
              go_wp2_with (go_at_call 12; refine (mark_any _ _).mono ?_; rintro e w' ⟨rfl, rfl⟩)
              refine (put_got b s j ts _ _ x k _ hsc2 hts).mono ?_
              rintro e w3 hgot
              obtain ⟨c, rfl⟩ := hgot.is
              have HGOT := Lib.hid hgot
              clear hgot
              go_wp2_with fail
              go_ret
              rw [HR.out, HS.out, h5]
              exact Got.after hbl2 HGOT.out
      · have HR : Hid (oneR s k s[k] = numR s k) := by
          show oneR s k s[k] = numR s k
          unfold oneR; simp [h1, h2, h3]
        go_wp2_with (first | (go_at_call 28; refine (low_any _ _).mono ?_; rintro e w' ⟨rfl, rfl⟩) | (go_at_call 31; refine (up_any _ _).mono ?_; rintro e w' ⟨rfl, rfl⟩) | (go_at_call 43; refine (digit_any _ _).mono ?_; rintro e w' ⟨rfl, rfl⟩))
        refine (number_any b k s ts _ hsc1 hk hs hts).mono ?_
        rintro e w2 hgot
        obtain ⟨c, rfl⟩ := hgot.is
        have HGOT := Lib.hid hgot
        clear hgot
        go_wp2_with fail
        go_ret
        rw [HR.out]
        exact Got.after hbl HGOT.out
    · have HR : Hid (oneR s k s[k] = wordR s k) := by
        show oneR s k s[k] = wordR s k
        unfold oneR; simp [h2]
      go_wp2_with (first | (go_at_call 28; refine (low_any _ _).mono ?_; rintro e w' ⟨rfl, rfl⟩) | (go_at_call 31; refine (up_any _ _).mono ?_; rintro e w' ⟨rfl, rfl⟩))
      refine (word_any b k s ts _ hsc1 hk (by omega) hts (by simp [insideB, h2])).mono ?_
      rintro e w2 hgot
      obtain ⟨c, rfl⟩ := hgot.is
      have HGOT := Lib.hid hgot
      clear hgot
      go_wp2_with fail
      go_ret
      rw [HR.out]
      exact Got.after hbl HGOT.out
  · have HR : Hid (oneR s k s[k] = wordR s k) := by
      show oneR s k s[k] = wordR s k
      unfold oneR; simp [h1]
    go_wp2_with (first | (go_at_call 28; refine (low_any _ _).mono ?_; rintro e w' ⟨rfl, rfl⟩))
    refine (word_any b k s ts _ hsc1 hk (by omega) hts (by simp [insideB, h1])).mono ?_
    rintro e w2 hgot
    obtain ⟨c, rfl⟩ := hgot.is
    have HGOT := Lib.hid hgot
    clear hgot
    go_wp2_with fail
    go_ret
    rw [HR.out]
    exact Got.after hbl HGOT.out

end Go.Proofs.YtnciccbgceomeaaDoor
