/- The walk of 'text'. -/
import Derived.Test.YtnciccbgceomeaaDoorText
namespace Go.Proofs.YtnciccbgceomeaaDoor
open Go.RowKit

theorem info5 : (Tryd.prog.info? 5).map (fun i => (i.zero, i.size, i.bytes)) = some (some (.int .u8 0), 1, 1) := by kernel_rfl

theorem one_cell (c : UInt8) : ∀ u, u ∈ [Value.int .u8 (c.toNat : Int)] → u.oneCell' = true := by
  intro u h
  simp at h
  subst h
  rfl
theorem own_sliceForm {w : World} {base : Nat} {e : TypeId} {size : Nat} {v : Value} {n : Nat} {xs : List Value} (h : w.ownsRow base e size v n xs) : ∃ a c, v = .slice a n c := by
  rcases h.2 with ⟨rfl, rfl⟩ | ⟨g, cap, _, rfl, _⟩
  · exact ⟨_, _, rfl⟩
  · exact ⟨_, _, rfl⟩

theorem textOfR_some (s : ByteArray) (k j : Nat) (acc : List UInt8) (h : j ≤ s.size) : textOfR (some (acc, s.data.toList.drop j)) s k = putR 4 (textOf acc) 0 k j := by
  have hl : s.data.toList.length = s.size := rfl
  have e1 : s.size - (s.data.toList.drop j).length = j := by rw [List.length_drop]; omega
  show putR 4 (textOf acc) 0 k (s.size - (s.data.toList.drop j).length) = _
  rw [e1]
theorem Tx.move1 {w0 w : World} {b B2 : Nat} {s : ByteArray} {ts : List Tok} {v : Value} {j : Nat} {acc : List UInt8} {bv : Value} (h : Tx w0 b B2 s ts v j acc bv w) : Tx w0 b B2 s ts v (j + 1) acc bv (w.setCell ⟨b, 1, none⟩ (.int .i64 ((j : Int) + 1))) := by
  have := h.move (j + 1)
  rwa [Int.natCast_add] at this

set_option maxHeartbeats 2000000 in
set_option maxRecDepth 100000 in
theorem text_any (b k : Nat) (s : ByteArray) (ts : List Tok) (w : World) (hsc : Sc w b s k ts) (hk : k < s.size) (hs : s.size ≤ 100000) (hts : ts.length ≤ 1000000) :
    Calls Tryd.prog 45 #[.pointer (some ⟨b, 0, none⟩)] w (Got w b s ts (textR s k)) := by
  obtain ⟨v, hb, ho⟩ := hsc
  obtain ⟨i0, hi, hz0, hz1, hz2⟩ := info_parts info5
  have htx0 : Tx w b w.heap.size s ts v k [] (.slice none 0 0) w := ⟨hb, ho, World.ownsRow_nil _ _ _ _, Below.refl _ _, Nat.le_refl _, hb.lt, fun g hg => (ho.lt g hg).2⟩
  generalize w.heap.size = B2 at htx0
  have c1 := hb.c1
  have f1 := hb.f 1
  clear hb ho
  go_enter Tryd.func45, Tryd.ntmps45
  go_wp2_with fail
  go_loopg [4] (s.size - (k + 1)) (fun g bv wr => ∃ (j : Nat) (acc : List UInt8), k + 1 ≤ j ∧ j ≤ s.size ∧ s.size - j = g ∧ acc.length ≤ j ∧ Tx w b B2 s ts v j acc bv wr ∧ textL (s.data.toList.drop (k + 1)) = more' acc (textL (s.data.toList.drop j)))
  case atStart => exact ⟨k + 1, [], Nat.le_refl _, by omega, rfl, by simp, htx0.move (k + 1), (more'_nil _).symm⟩
  case round =>
    obtain ⟨j, acc, hkj, hj, hg, hacc, htx, htl⟩ := hrel
    have HR : Hid (textR s k = textOfR (more' acc (textL (s.data.toList.drop j))) s k) := by
      show textR s k = _
      unfold textR
      rw [htl]
    have HG := Lib.hid hg
    have HT := Lib.hid htl
    clear hg htl c1 f1 htx0
    have c0 := htx.blk.c0
    have c1 := htx.blk.c1
    by_cases hlt : j < s.size
    · have hd : decide ((j : Int) < (s.size : Int)) = true := by simp; omega
      go_wp2_with fail
      go_quiet (fail)
      have htx2 := htx.drewN nq
      clear c0 c1 htx
      generalize wr.drewN nq = w2 at *
      have c0 := htx2.blk.c0
      have c1 := htx2.blk.c1
      go_wp2_with fail
      go_quiet (fail)
      have htx := htx2.drewN nq
      clear c0 c1 htx2
      generalize w2.drewN nq = wr at *
      have c0 := htx.blk.c0
      have c1 := htx.blk.c1
      have f1 := htx.blk.f 1
      have hcv := own_string htx.byt
      obtain ⟨ba, bc, hbv⟩ := own_sliceForm htx.byt
      rw [hbv] at htx hcv ⊢
      clear hbv
      by_cases h34 : s[j].toNat = 34
      · have t34 : ((s[j].toNat : Int) == 34) = true := by simp [h34]
        have HE := Lib.hid (textL_quote hlt acc h34)
        clear h34
        have htm := htx.move1
        have hcv2 := own_string htm.byt
        go_wp2_with fail
        refine (put_got b s (j + 1) ts _ _ _ k _ ⟨v, htm.blk, htm.own⟩ hts).mono ?_
        rintro e w3 hgot
        obtain ⟨c, rfl⟩ := hgot.is
        have HGOT := Lib.hid hgot
        have hbel := htm.bel
        clear hgot hcv hcv2 htm htx c0 c1 f1
        go_wp2_with fail
        go_ret
        rw [HR.out, HE.out, textOfR_some s k (j + 1) acc (by omega)]
        exact Got.after hbel HGOT.out
      · have t34 : ((s[j].toNat : Int) == 34) = false := by simp; omega
        by_cases h10 : s[j].toNat = 10
        · have t10 : ((s[j].toNat : Int) == 10) = true := by simp [h10]
          have HE := Lib.hid (textL_line hlt acc h10)
          have hbel := htx.bel
          clear h10 h34 hcv htx c0 c1 f1
          go_wp2_with fail
          go_ret
          rw [HR.out, HE.out]
          exact ⟨rfl, hbel⟩
        · have t10 : ((s[j].toNat : Int) == 10) = false := by simp; omega
          by_cases h92 : s[j].toNat = 92
          · have t92 : ((s[j].toNat : Int) == 92) = true := by simp [h92]
            clear h10 h34 hcv
            have htm := htx.move1
            go_wp2_with fail
            generalize (wr.setCell ⟨b, 1, none⟩ (.int .i64 ((j : Int) + 1))) = w4 at *
            clear c0 c1 f1 htx
            obtain ⟨m, hm⟩ : ∃ m : Nat, m = j + 1 := ⟨_, rfl⟩
            have em : ((j : Int) + 1) = (m : Int) := by omega
            rw [em]
            rw [← hm] at htm
            have hjm : j < m := by omega
            have hmj : m ≤ j + 1 := by omega
            have HM := Lib.hid hm
            clear hm em
            have c0 := htm.blk.c0
            have c1 := htm.blk.c1
            by_cases h2 : m < s.size
            · have tl : ((m : Int) == (s.size : Int)) = false := by simp; omega
              have HE0 := Lib.hid (textL_back hlt acc h92 (by omega))
              clear h92
              go_quiet (fail)
              have htx := htm.drewN nq
              clear c0 c1 htm
              generalize w4.drewN nq = w5 at *
              have c0 := htx.blk.c0
              have c1 := htx.blk.c1
              go_wp2_with fail
              go_quiet (exact Calls.quiet_of_same (Tryd.strings_IndexByte _ _ _))
              have htm := htx.drewN nq
              clear c0 c1 htx
              generalize w5.drewN nq = w6 at *
              have HE1 : Hid (more' acc (textL (s.data.toList.drop j)) = match escC s[m] with | none => none | some x => more' (acc ++ [x]) (textL (s.data.toList.drop (m + 1)))) := by
                have hm := HM.out
                subst hm
                exact HE0.out
              clear HE0
              have HD := Lib.hid (esc_index s[m])
              generalize s[m] = d at *
              rcases HD.out with ⟨hix, hes⟩ | ⟨hix, hes⟩ | ⟨hix, hes⟩ | ⟨hix, hes⟩ | ⟨hix, hes⟩
              · have HS := Lib.hid hes
                have hbel := htm.bel
                clear hes htm HD
                go_wp2_with fail
                go_ret
                rw [HR.out, HE1.out, HS.out]
                exact ⟨rfl, hbel⟩
              · have HE2 : Hid (more' acc (textL (s.data.toList.drop j)) = more' (acc ++ [10]) (textL (s.data.toList.drop (m + 1)))) := by
                  have := HE1.out
                  rwa [hes] at this
                clear hes HD HE1
                go_wp2_with (at_builtin; refine wpList_append_own _ rfl _ _ 51 rfl B2 5 i0 (.int .u8 0) 1 1 Tryd.underlying51 hi hz0 hz1 hz2 rfl (by decide) _ acc.length (byteCells acc) rfl (htm.byt.alloc _) ⟨w6.heap.size, 0, none⟩ 1 1 [.int .u8 10] rfl rfl ?_ ?_ ?_ ?_ ?_ ?_)
                · exact cells_new w6 [.int .u8 10] 5
                · exact one_cell 10
                · unfold maxLen; omega
                · omega
                · have := htm.hB; simp; omega
                · intro v' w7 hown hgr _
                  have hta := htm.appended _ 10 hown hgr
                  clear htm hown hgr
                  have c1' := hta.blk.c1
                  have f1' := hta.blk.f 1
                  go_wp2_with fail
                  go_roundg (s.size - (m + 1))
                  case measure => have := HG.out; omega
                  case rel => exact ⟨m + 1, acc ++ [10], by omega, by omega, rfl, by simp; omega, hta.move1, HT.out.trans HE2.out⟩
              · have HE2 : Hid (more' acc (textL (s.data.toList.drop j)) = more' (acc ++ [9]) (textL (s.data.toList.drop (m + 1)))) := by
                  have := HE1.out
                  rwa [hes] at this
                clear hes HD HE1
                go_wp2_with (at_builtin; refine wpList_append_own _ rfl _ _ 51 rfl B2 5 i0 (.int .u8 0) 1 1 Tryd.underlying51 hi hz0 hz1 hz2 rfl (by decide) _ acc.length (byteCells acc) rfl (htm.byt.alloc _) ⟨w6.heap.size, 0, none⟩ 1 1 [.int .u8 9] rfl rfl ?_ ?_ ?_ ?_ ?_ ?_)
                · exact cells_new w6 [.int .u8 9] 5
                · exact one_cell 9
                · unfold maxLen; omega
                · omega
                · have := htm.hB; simp; omega
                · intro v' w7 hown hgr _
                  have hta := htm.appended _ 9 hown hgr
                  clear htm hown hgr
                  have c1' := hta.blk.c1
                  have f1' := hta.blk.f 1
                  go_wp2_with fail
                  go_roundg (s.size - (m + 1))
                  case measure => have := HG.out; omega
                  case rel => exact ⟨m + 1, acc ++ [9], by omega, by omega, rfl, by simp; omega, hta.move1, HT.out.trans HE2.out⟩
              · have HE2 : Hid (more' acc (textL (s.data.toList.drop j)) = more' (acc ++ [34]) (textL (s.data.toList.drop (m + 1)))) := by
                  have := HE1.out
                  rwa [hes] at this
                clear hes HD HE1
                go_wp2_with (at_builtin; refine wpList_append_own _ rfl _ _ 51 rfl B2 5 i0 (.int .u8 0) 1 1 Tryd.underlying51 hi hz0 hz1 hz2 rfl (by decide) _ acc.length (byteCells acc) rfl (htm.byt.alloc _) ⟨w6.heap.size, 0, none⟩ 1 1 [.int .u8 34] rfl rfl ?_ ?_ ?_ ?_ ?_ ?_)
                · exact cells_new w6 [.int .u8 34] 5
                · exact one_cell 34
                · unfold maxLen; omega
                · omega
                · have := htm.hB; simp; omega
                · intro v' w7 hown hgr _
                  have hta := htm.appended _ 34 hown hgr
                  clear htm hown hgr
                  have c1' := hta.blk.c1
                  have f1' := hta.blk.f 1
                  go_wp2_with fail
                  go_roundg (s.size - (m + 1))
                  case measure => have := HG.out; omega
                  case rel => exact ⟨m + 1, acc ++ [34], by omega, by omega, rfl, by simp; omega, hta.move1, HT.out.trans HE2.out⟩
              · have HE2 : Hid (more' acc (textL (s.data.toList.drop j)) = more' (acc ++ [92]) (textL (s.data.toList.drop (m + 1)))) := by
                  have := HE1.out
                  rwa [hes] at this
                clear hes HD HE1
                go_wp2_with (at_builtin; refine wpList_append_own _ rfl _ _ 51 rfl B2 5 i0 (.int .u8 0) 1 1 Tryd.underlying51 hi hz0 hz1 hz2 rfl (by decide) _ acc.length (byteCells acc) rfl (htm.byt.alloc _) ⟨w6.heap.size, 0, none⟩ 1 1 [.int .u8 92] rfl rfl ?_ ?_ ?_ ?_ ?_ ?_)
                · exact cells_new w6 [.int .u8 92] 5
                · exact one_cell 92
                · unfold maxLen; omega
                · omega
                · have := htm.hB; simp; omega
                · intro v' w7 hown hgr _
                  have hta := htm.appended _ 92 hown hgr
                  clear htm hown hgr
                  have c1' := hta.blk.c1
                  have f1' := hta.blk.f 1
                  go_wp2_with fail
                  go_roundg (s.size - (m + 1))
                  case measure => have := HG.out; omega
                  case rel => exact ⟨m + 1, acc ++ [92], by omega, by omega, rfl, by simp; omega, hta.move1, HT.out.trans HE2.out⟩
            · have tl : ((m : Int) == (s.size : Int)) = true := by simp; omega
              have HE := Lib.hid (textL_back_end hlt acc h92 (by omega))
              have hbel := htm.bel
              clear h92
              go_quiet (fail)
              clear htm c0 c1
              go_wp2_with fail
              go_ret
              rw [HR.out, HE.out]
              exact ⟨rfl, ⟨hbel.os, hbel.tape, hbel.output, hbel.size, hbel.block⟩⟩
          · have t92 : ((s[j].toNat : Int) == 92) = false := by simp; omega
            have HE := Lib.hid (textL_plain hlt acc h34 h10 h92)
            clear h34 h10 h92 hcv
            go_wp2_with (at_builtin; refine wpList_append_own _ rfl _ _ 51 rfl B2 5 i0 (.int .u8 0) 1 1 Tryd.underlying51 hi hz0 hz1 hz2 rfl (by decide) _ acc.length (byteCells acc) rfl (htx.byt.alloc _) ⟨wr.heap.size, 0, none⟩ 1 1 [.int .u8 (s[j].toNat : Int)] rfl rfl ?_ ?_ ?_ ?_ ?_ ?_)
            · exact cells_new wr [.int .u8 (s[j].toNat : Int)] 5
            · exact one_cell s[j]
            · unfold maxLen; omega
            · omega
            · have := htx.hB; simp; omega
            · intro v' w7 hown hgr _
              have hta := htx.appended _ s[j] hown hgr
              clear htx hown hgr
              have c1' := hta.blk.c1
              have f1' := hta.blk.f 1
              go_wp2_with fail
              go_roundg (s.size - (j + 1))
              case measure => have := HG.out; omega
              case rel => exact ⟨j + 1, acc ++ [s[j]], by omega, by omega, rfl, by simp; omega, hta.move1, HT.out.trans HE.out⟩
    · have hd : decide ((j : Int) < (s.size : Int)) = false := by simp; omega
      have HE := Lib.hid (textL_end hlt acc)
      have hbel := htx.bel
      go_wp2_with fail
      go_quiet (fail)
      clear htx c0 c1
      go_wp2_with fail
      go_ret
      rw [HR.out, HE.out]
      exact ⟨rfl, ⟨hbel.os, hbel.tape, hbel.output, hbel.size, hbel.block⟩⟩

end Go.Proofs.YtnciccbgceomeaaDoor
