/- The walk of the statement LexBehind. -/
import Derived.Test.YtnciccbgceomeaaDoorBoth
import Derived.Test.YtnciccbgceomeaaDoorSame
import Derived.Test.YtnciccbgceomeaaDoorAwake
namespace Go.Proofs.YtnciccbgceomeaaDoor
open Go.RowKit

theorem Scanned.shape {w : World} {r : Except (Int × Nat) (List Tok)} {e : Ending} {w' : World} (h : Scanned w r e w') : ∃ v, e = .returned (.tuple #[v, .agg #[.int .i64 (codeOf r).1, .int .i64 (codeOf r).2]]) ∧ Below w.heap.size w w' := by
  unfold Scanned at h
  split at h
  · obtain ⟨v, h1, _, h2⟩ := h; exact ⟨v, h1, h2⟩
  · exact ⟨_, h.1, h.2⟩

/-- The five ways, of what 'Scan' has left. -/
theorem both_of {a b S : ByteArray} {w : World} {e : Ending} {w' : World} (_h : Scanned w (scanP S) e w') (ha : a.size ≤ 2000) (hb : b.size ≤ 2000) (hS : S.data.toList = a.data.toList ++ 10 :: b.data.toList) :
    ((codeOf (scanP a)).1 = 100 ∧ codeOf (scanP S) = codeOf (scanP a)) ∨
    ((codeOf (scanP a)).1 ≠ 100 ∧ (codeOf (scanP b)).1 = 100 ∧ codeOf (scanP S) = (100, (codeOf (scanP b)).2 + a.size + 1)) ∨
    ((codeOf (scanP a)).1 ≠ 100 ∧ (codeOf (scanP b)).1 ≠ 100 ∧ (codeOf (scanP a)).1 ≠ 0 ∧ codeOf (scanP S) = codeOf (scanP a)) ∨
    ((codeOf (scanP a)).1 = 0 ∧ (codeOf (scanP b)).1 ≠ 100 ∧ (codeOf (scanP b)).1 ≠ 0 ∧ codeOf (scanP S) = ((codeOf (scanP b)).1, (codeOf (scanP b)).2 + a.size + 1)) ∨
    (∃ (ta tb : List Tok) (te : Tok), scanP a = .ok (ta ++ [te]) ∧ scanP b = .ok tb ∧ scanP S = .ok (ta ++ tb.map fun t => { t with at_ := t.at_ + (a.size + 1) }) ∧ (∀ t ∈ ta ++ [te], t.at_ ≤ 2000) ∧ ∀ t ∈ tb, t.at_ ≤ 2000) :=
  both a b S ha hb hS

/-- Two cells of a block. -/
def Two (w : World) (r : Nat) (c p : Int) : Prop := w.heap[r]? = some (.cells #[.int .i64 c, .int .i64 p] 26 (0, 0))
theorem Two.c0 {w : World} {r : Nat} {c p : Int} (h : Two w r c p) : w.cell? ⟨r, 0, none⟩ = some (.int .i64 c) := by simp [World.cell?, show w.heap[r]? = _ from h]
theorem Two.c1 {w : World} {r : Nat} {c p : Int} (h : Two w r c p) : w.cell? ⟨r, 1, none⟩ = some (.int .i64 p) := by simp [World.cell?, show w.heap[r]? = _ from h]
theorem Two.later {w w' : World} {r B : Nat} {c p : Int} (h : Two w r c p) (hb : Below B w w') (hr : r < B) : Two w' r c p := by unfold Two at *; rw [hb.block r hr]; exact h
theorem Two.new (w : World) (c p : Int) : Two (w.alloc (.cells #[.int .i64 c, .int .i64 p] 26)) w.heap.size c p := heap_alloc_new w _
theorem Two.lt {w : World} {r : Nat} {c p : Int} (h : Two w r c p) : r < w.heap.size := lt_of_block h

theorem code_bd (s : ByteArray) (h : s.size ≤ 60000) : 0 ≤ (codeOf (scanP s)).2 ∧ (codeOf (scanP s)).2 ≤ s.size := by
  rw [scanP_form s h]
  split
  · simp only [codeOf]; omega
  · unfold liftScan
    split
    · simp only [codeOf]; omega
    · simp only [codeOf]; omega

def HBof (a b : ByteArray) (r : Except (Int × Nat) (List Tok)) (xa xb : Int × Int) : Prop :=
    (xa.1 = 100 ∧ codeOf r = xa) ∨
    (xa.1 ≠ 100 ∧ xb.1 = 100 ∧ codeOf r = (100, xb.2 + a.size + 1)) ∨
    (xa.1 ≠ 100 ∧ xb.1 ≠ 100 ∧ xa.1 ≠ 0 ∧ codeOf r = xa) ∨
    (xa.1 = 0 ∧ xb.1 ≠ 100 ∧ xb.1 ≠ 0 ∧ codeOf r = (xb.1, xb.2 + a.size + 1)) ∨
    (∃ (ta tb : List Tok) (te : Tok), scanP a = .ok (ta ++ [te]) ∧ scanP b = .ok tb ∧ r = .ok (ta ++ tb.map fun t => { t with at_ := t.at_ + (a.size + 1) }) ∧ (∀ t ∈ ta ++ [te], t.at_ ≤ 2000) ∧ ∀ t ∈ tb, t.at_ ≤ 2000)

theorem scanP_ne {s : ByteArray} {ts : List Tok} (h : s.size ≤ 60000) (hs : scanP s = .ok ts) : ts ≠ [] := by
  rw [scanP_form s h] at hs
  split at hs
  · cases hs
  · unfold liftScan at hs
    split at hs
    · cases hs
    · rename_i l hl
      have := scanAll_ne hl
      cases hs
      simpa using this
theorem scanL_len : ∀ (f : Nat) (l : List UInt8) (ts : List LTok), scanL f l = .ok ts → ts.length ≤ l.length + 1
  | 0, l, ts, h => by cases h; simp
  | f + 1, [], ts, h => by cases h; simp
  | f + 1, c :: r, ts, h => by
    simp only [scanL] at h
    split at h
    · cases h
    · rename_i h1
      have hs := oneL_shorter h1
      split at h
      · cases h
      · rename_i h2
        have ih := scanL_len f _ _ h2
        cases h
        simp only [List.length_cons]
        omega
theorem scanP_len {s : ByteArray} {ts : List Tok} (h : s.size ≤ 60000) (hs : scanP s = .ok ts) : ts.length ≤ s.size + 1 := by
  rw [scanP_form s h] at hs
  split at hs
  · cases hs
  · unfold liftScan at hs
    split at hs
    · cases hs
    · rename_i l hl
      have h1 := scanL_len _ _ _ hl
      have h2 := skipC_length false s.data.toList
      have hl : s.data.toList.length = s.size := rfl
      cases hs
      simp only [List.nil_append, List.length_map]
      omega
theorem tokCells_at (ts : List Tok) : ∀ (i j : Nat) (h : i < ts.length), j < 4 → (tokCells ts)[i * 4 + j]? = (ts[i].cells)[j]? := by
  induction ts with
  | nil => intro i j h; simp at h
  | cons t r ih =>
    intro i j h hj
    have e : tokCells (t :: r) = t.cells ++ tokCells r := rfl
    have hl : t.cells.length = 4 := rfl
    rw [e]
    cases i with
    | zero =>
      rw [List.getElem?_append_left (by rw [hl]; omega)]
      simp
    | succ i =>
      rw [List.getElem?_append_right (by rw [hl]; omega), hl]
      have := ih i j (by simpa using h) hj
      rw [show (i + 1) * 4 + j - 4 = i * 4 + j from by omega, this]
      rfl
theorem Toks.of_own {w : World} {base g cap : Nat} {ts : List Tok} (h : w.ownsRow base 35 4 (.slice (some ⟨g, 0, none⟩) ts.length cap) ts.length (tokCells ts)) : Toks w g 0 ts := by
  intro i hi
  have hc : ∀ j, j < 4 → w.cell? ⟨g, i * 4 + j, none⟩ = (ts[i].cells)[j]? := fun j hj => by
    rw [h.cellAt (i * 4 + j) (by omega), tokCells_at ts i j hi hj]
  rw [Nat.zero_add]
  exact ⟨hc 0 (by omega), hc 1 (by omega), hc 2 (by omega), hc 3 (by omega)⟩
theorem Toks.later {w w' : World} {g off B : Nat} {ts : List Tok} (h : Toks w g off ts) (hb : Below B w w') (hg : g < B) : Toks w' g off ts := by
  intro i hi
  have hc : ∀ o, w'.cell? ⟨g, o, none⟩ = w.cell? ⟨g, o, none⟩ := fun o => hb.cell (p := ⟨g, o, none⟩) hg
  rw [hc, hc, hc, hc]
  exact h i hi
theorem Toks.left {w : World} {g off : Nat} {ta tb : List Tok} (h : Toks w g off (ta ++ tb)) : Toks w g off ta := by
  intro i hi
  have := h i (by simp; omega)
  rw [List.getElem_append_left hi] at this
  exact this
theorem Toks.right {w : World} {g off : Nat} {ta tb : List Tok} (h : Toks w g off (ta ++ tb)) : Toks w g (off + ta.length * 4) tb := by
  intro i hi
  have := h (ta.length + i) (by simp; omega)
  rw [List.getElem_append_right (by omega)] at this
  simp only [Nat.add_sub_cancel_left, Nat.add_mul, ← Nat.add_assoc] at this
  exact this
theorem Scanned.own {w : World} {ts : List Tok} {v : Value} {c p : Int} {w' : World} (h : Scanned w (.ok ts) (.returned (.tuple #[v, .agg #[.int .i64 c, .int .i64 p]])) w') : w'.ownsRow w.heap.size 35 4 v ts.length (tokCells ts) := by
  obtain ⟨v', h1, h2, _⟩ := h
  cases h1
  exact h2
theorem own_slice {w : World} {base : Nat} {v : Value} {ts : List Tok} (h : w.ownsRow base 35 4 v ts.length (tokCells ts)) (hne : ts ≠ []) : ∃ g cap, v = .slice (some ⟨g, 0, none⟩) ts.length cap ∧ ts.length ≤ cap ∧ g < w.heap.size ∧ Toks w g 0 ts := by
  have hlt := h.lt
  have h0 := h
  rcases h.2 with ⟨_, h0⟩ | ⟨g, cap, cur, hv, hb, hg, hc, hm, _⟩
  · exact absurd (List.eq_nil_of_length_eq_zero h0) hne
  · subst hv
    exact ⟨g, cap, rfl, hc, (hlt g rfl).2, Toks.of_own h0⟩

theorem elem23 : Tryd.prog.elem 23 = 35 := by kernel_rfl
theorem slice_tail (g n m cap : Nat) (h : n < cap) (wx : World) : (Instr.slice 23 (.slice (some ⟨g, 0, none⟩) (n + m) cap) (some (.int .i64 (n : Int))) none none).run Tryd.prog wx = .ok (.slice (some ⟨g, n * 4, none⟩) m (cap - n)) wx := by
  have hne : ¬ cap = n := by omega
  have h1 : (n : Int) ≤ ((n + m : Nat) : Int) := by omega
  have hadd : (⟨g, 0, none⟩ : Addr).add (n * 4) = ⟨g, n * 4, none⟩ := by unfold Addr.add; split <;> simp_all
  have hu : Tryd.prog.underlying 23 = some (.slice (Tryd.prog.elem 23)) := by rw [elem23]; exact Tryd.underlying23
  rw [run_slice_l (P := Tryd.prog) wx 23 (some ⟨g, 0, none⟩) (n + m) cap hu .i64 (n : Int) (by omega) h1, elem23, Tryd.sizeOf35]
  simp [Result.andThen, sliced, hne, hadd]

set_option maxHeartbeats 2000000 in
set_option maxRecDepth 100000 in
theorem lexBehind_any (a b : ByteArray) (w : World) (hsa : a.size ≤ maxLen) (hsb : b.size ≤ maxLen) :
    Calls Tryd.prog 3 #[.string a, .string b] w fun e w' => e = .returned (.bool true) ∧ Below w.heap.size w w' := by
  unfold maxLen at hsa hsb
  by_cases hl : 2000 < a.size
  · have hl' : decide ((2000 : Int) < (a.size : Int)) = true := by simp; omega
    go_enter Tryd.func3, Tryd.ntmps3
    go_wp2_with (go_at_call 6; refine (awake_any _).mono ?_; rintro e w1 ⟨rfl, hb1⟩)
    go_ret
    exact ⟨rfl, by assumption⟩
  by_cases hm : 2000 < b.size
  · have hl' : decide ((2000 : Int) < (a.size : Int)) = false := by simp; omega
    have hm' : decide ((2000 : Int) < (b.size : Int)) = true := by simp; omega
    go_enter Tryd.func3, Tryd.ntmps3
    go_wp2_with (go_at_call 6; refine (awake_any _).mono ?_; rintro e w1 ⟨rfl, hb1⟩)
    go_ret
    exact ⟨rfl, by assumption⟩
  have hl' : decide ((2000 : Int) < (a.size : Int)) = false := by simp; omega
  have hm' : decide ((2000 : Int) < (b.size : Int)) = false := by simp; omega
  go_enter Tryd.func3, Tryd.ntmps3
  go_wp2_with (go_at_call 6; refine (awake_any _).mono ?_; rintro e w1 ⟨rfl, hb1⟩)
  refine (scan_any a _ (by unfold maxLen; omega)).mono ?_
  rintro e w2 hs2
  obtain ⟨va, rfl, hb2⟩ := hs2.shape
  have HS2 := Lib.hid hs2
  clear hs2
  generalize hxa : codeOf (scanP a) = xa at *
  obtain ⟨ca, pa⟩ := xa
  have HXA := Lib.hid hxa
  clear hxa
  go_wp2_with fail
  have hd2 := Two.new w2 ca pa
  have hb3 : Below w2.heap.size w2 (w2.alloc (.cells #[.int .i64 ca, .int .i64 pa] 26)) := (Below.refl _ _).alloc (Nat.le_refl _) _
  generalize w2.alloc (.cells #[.int .i64 ca, .int .i64 pa] 26) = w3 at *
  generalize hr2 : w2.heap.size = r2 at *
  have hlt3 := hd2.lt
  refine (scan_any b _ (by unfold maxLen; omega)).mono ?_
  rintro e w4 hs4
  obtain ⟨vb, rfl, hb4⟩ := hs4.shape
  have HS4 := Lib.hid hs4
  clear hs4
  have hbd := code_bd b (by omega)
  generalize hxb : codeOf (scanP b) = xb at *
  obtain ⟨cb, pb⟩ := xb
  have HXB := Lib.hid hxb
  clear hxb
  obtain ⟨hpb0, hpb1⟩ := hbd
  simp only at hpb0 hpb1
  have hd4 := hd2.later hb4 hlt3
  go_wp2_with fail
  have hb5 : Below w4.heap.size w4 (w4.alloc (.cells #[.int .i64 cb, .int .i64 pb] 26)) := (Below.refl _ _).alloc (Nat.le_refl _) _
  have he5 := Two.new w4 cb pb
  have hd5 := hd4.later hb5 hd4.lt
  generalize w4.alloc (.cells #[.int .i64 cb, .int .i64 pb] 26) = w5 at *
  generalize hr4 : w4.heap.size = r4 at *
  refine (scan_any _ _ ?_).mono ?_
  · simp only [ByteArray.size_append]
    show a.size + 1 + b.size ≤ maxLen
    unfold maxLen
    omega
  rintro e w6 hs6
  have HB := Lib.hid (both_of hs6 (a := a) (b := b) (by omega) (by omega) (by simp))
  rw [HXA.out, HXB.out] at HB
  obtain ⟨rx, hrx⟩ : ∃ r, Scanned w5 r e w6 ∧ HBof a b r (ca, pa) (cb, pb) := ⟨_, hs6, HB.out⟩
  clear hs6 HB
  obtain ⟨hs6, hB⟩ := hrx
  have HB := Lib.hid hB
  clear hB
  obtain ⟨vx, rfl, hb6⟩ := hs6.shape
  have HS6 := Lib.hid hs6
  clear hs6
  unfold HBof at HB
  generalize hxx : codeOf rx = xx at *
  obtain ⟨cx, px⟩ := xx
  have HX := Lib.hid hxx
  clear hxx
  have hd6 := hd5.later hb6 hd5.lt
  have he6 := he5.later hb6 he5.lt
  have hbw : Below w.heap.size w w6 := by
    have h2 := hb1.trans (hb2.mono hb1.size)
    have h3 := h2.trans (hb3.mono (by rw [← hr2]; exact h2.size))
    have h4 := h3.trans (hb4.mono h3.size)
    have h5 := h4.trans (hb5.mono (by rw [← hr4]; exact h4.size))
    exact h5.trans (hb6.mono h5.size)
  have hb7 : Below w6.heap.size w6 (w6.alloc (.cells #[.int .i64 cx, .int .i64 px] 26)) := (Below.refl _ _).alloc (Nat.le_refl _) _
  have hd7 := hd6.later hb7 hd6.lt
  have he7 := he6.later hb7 he6.lt
  have hbw7 : Below w.heap.size w (w6.alloc (.cells #[.int .i64 cx, .int .i64 px] 26)) := hbw.trans (hb7.mono hbw.size)
  have c0 := hd7.c0
  have c1 := hd7.c1
  have e0 := he7.c0
  have e1 := he7.c1
  rcases HB.out with ⟨h1, h2⟩ | ⟨h1, h2, h3⟩ | ⟨h1, h2, h3, h4⟩ | ⟨h1, h2, h3, h4⟩ | ⟨ta, tb, te, h1, h2, h3, h4, h5⟩
  · simp only [Prod.mk.injEq] at h1 h2
    obtain ⟨rfl, rfl⟩ := h2
    have t1 : (cx == 100) = true := by simp [h1]
    clear HB h1 hb1 hb2 hb3 hb4 hb5 hb6 hd2 hd4 hd5 he5 HS2 HS4 HS6
    go_wp2_with fail
    go_ret
    exact ⟨rfl, hbw7⟩
  · simp only [Prod.mk.injEq] at h1 h2 h3
    obtain ⟨rfl, rfl⟩ := h3
    obtain rfl := h2
    have t1 : (ca == 100) = false := by simp [h1]
    clear HB h1 hb1 hb2 hb3 hb4 hb5 hb6 hd2 hd4 hd5 he5 HS2 HS4 HS6
    go_wp2_with fail
    go_ret
    exact ⟨by simp, hbw7⟩
  · simp only [Prod.mk.injEq] at h1 h2 h3 h4
    obtain ⟨rfl, rfl⟩ := h4
    have t1 : (cx == 100) = false := by simp [h1]
    have t2 : (cb == 100) = false := by simp [h2]
    have t3 : (cx != 0) = true := by simp [h3]
    clear HB h1 h2 h3 hb1 hb2 hb3 hb4 hb5 hb6 hd2 hd4 hd5 he5 HS2 HS4 HS6
    go_wp2_with fail
    go_ret
    exact ⟨rfl, hbw7⟩
  · simp only [Prod.mk.injEq] at h1 h2 h3 h4
    obtain ⟨rfl, rfl⟩ := h4
    obtain rfl := h1
    have t2 : (cx == 100) = false := by simp [h2]
    have t3 : (cx != 0) = true := by simp [h3]
    clear HB h2 h3 hb1 hb2 hb3 hb4 hb5 hb6 hd2 hd4 hd5 he5 HS2 HS4 HS6
    go_wp2_with fail
    go_ret
    exact ⟨by simp, hbw7⟩
  · have h1' := HXA.out
    have h2' := HXB.out
    rw [h1] at h1'
    rw [h2] at h2'
    subst h3
    simp only [codeOf, Prod.mk.injEq] at h1' h2'
    obtain ⟨rfl, rfl⟩ := h1'
    obtain ⟨rfl, rfl⟩ := h2'
    have h3' := HX.out
    simp only [codeOf, Prod.mk.injEq] at h3'
    obtain ⟨rfl, rfl⟩ := h3'
    have o2 := HS2.out
    rw [h1] at o2
    have o4 := HS4.out
    rw [h2] at o4
    have hne := scanP_ne (by omega) h2
    obtain ⟨ga, capa, rfl, hca, hga, hta⟩ := own_slice o2.own (by simp)
    obtain ⟨gb, capb, rfl, hcb, hgb, htb⟩ := own_slice o4.own hne
    obtain ⟨gx, capx, rfl, hcx, hgx, htx⟩ := own_slice HS6.out.own (by simp [hne])
    have ha3 := hb3.size
    have ha4 := hb4.size
    have ha5 := hb5.size
    have ha6 := hb6.size
    have ka := ((((hta.later hb3 (by omega)).later hb4 (by omega)).later hb5 (by omega)).later hb6 (by omega)).later hb7 (by omega)
    have kb := ((htb.later hb5 (by omega)).later hb6 (by omega)).later hb7 (by omega)
    have kx := htx.later hb7 hgx
    have l1 : (ta ++ [te]).length = ta.length + 1 := by simp
    have l2 : (ta ++ tb.map fun t : Tok => { t with at_ := t.at_ + (a.size + 1) }).length = ta.length + tb.length := by simp
    rw [l1] at hca ⊢
    rw [l2] at hcx ⊢
    have kal := ka.left
    have kxl := kx.left
    have kxr := kx.right
    have hbig : ta.length + tb.length ≤ 1000000 := by
      have q1 := scanP_len (by omega) h1
      have q2 := scanP_len (by omega) h2
      simp only [List.length_append] at q1
      omega
    clear l1 l2 HB h1 h2 hb1 hb2 hb3 hb4 hb5 hb6 hb7 hd2 hd4 hd5 he5 hd6 he6 hd7 he7 HS2 HS4 HS6 HX o2 o4 hta htb htx HXA HXB ha3 ha4 ha5 ha6 hr2 hr4 hlt3 hga hgb hgx kx
    have HKA := Lib.hid ka
    have HKB := Lib.hid kb
    have HKAL := Lib.hid kal
    have HKXL := Lib.hid kxl
    have HKXR := Lib.hid kxr
    have H4 := Lib.hid h4
    have H5 := Lib.hid h5
    clear ka kb kal kxl kxr h4 h5
    obtain ⟨na, hna⟩ : ∃ n, ta.length = n := ⟨_, rfl⟩
    obtain ⟨nb, hnb⟩ : ∃ n, tb.length = n := ⟨_, rfl⟩
    have hnb0 : 0 < nb := by rw [← hnb]; exact List.length_pos_iff.2 hne
    rw [hna] at hca hcx HKXR hbig ⊢
    rw [hnb] at hcb hcx hbig ⊢
    have HNA := Lib.hid hna
    have HNB := Lib.hid hnb
    clear hna hnb hne
    go_wp2_with fail
    have hf := Two.new w6 0 0
    have f0 := hf.c0
    clear hf c0 c1 e0 e1 hbw
    generalize w6.alloc (.cells #[.int .i64 0, .int .i64 0] 26) = W at *
    generalize w6.heap.size = r6 at *
    have hw1 : IntKind.i64.wrap ((na : Int) + (nb : Int)) = (na : Int) + (nb : Int) := IntWalk.i64_in _ (by omega)
    have hw2 : IntKind.i64.wrap ((a.size : Int) + 1) = (a.size : Int) + 1 := IntWalk.i64_in _ (by omega)
    have hx1 : na ≤ capx := by omega
    have hx2 : na ≤ capa := by omega
    have hx3 : na ≤ na + nb := by omega
    have hx4 : ¬ capx = na := by omega
    have HQ1 : Hid (∀ i (h : i < ta.length) (h' : i < ta.length), sameTok ta[i] ta[i]) := fun _ _ _ => ⟨rfl, rfl, rfl⟩
    have HQ2 : Hid (∀ i (h : i < (tb.map fun t : Tok => { t with at_ := t.at_ + (a.size + 1) }).length) (h' : i < tb.length), sameTok (tb.map fun t : Tok => { t with at_ := t.at_ + (a.size + 1) })[i] tb[i]) := fun i h h' => by
      rw [List.getElem_map]
      exact ⟨rfl, rfl, rfl⟩
    have HNM : Hid ((tb.map fun t : Tok => { t with at_ := t.at_ + (a.size + 1) }).length = nb) := by
      show (tb.map _).length = nb
      rw [List.length_map]
      exact HNB.out
    have HQ3 : Hid (∀ i (h : i < ta.length) (h' : i < (ta ++ [te]).length), (ta[i].at_ : Int) = ((ta ++ [te])[i].at_ : Int) + 0) := fun i h h' => by
      rw [List.getElem_append_left h]
      omega
    have HQ4 : Hid (∀ i (h : i < (tb.map fun t : Tok => { t with at_ := t.at_ + (a.size + 1) }).length) (h' : i < tb.length), ((tb.map fun t : Tok => { t with at_ := t.at_ + (a.size + 1) })[i].at_ : Int) = (tb[i].at_ : Int) + ((a.size : Int) + 1)) := fun i h h' => by
      rw [List.getElem_map]
      show ((tb[i].at_ + (a.size + 1) : Nat) : Int) = _
      omega
    have HNT : Hid ((ta ++ [te]).length = na + 1) := by
      show (ta ++ [te]).length = na + 1
      rw [List.length_append, HNA.out]
      rfl
    have HD1 : Hid (∀ i (h' : i < (ta ++ [te]).length), (ta ++ [te])[i].at_ ≤ 1000000) := fun i h' => Nat.le_trans (H4.out _ (List.getElem_mem h')) (by decide)
    have HD2 : Hid (∀ i (h' : i < tb.length), tb[i].at_ ≤ 1000000) := fun i h' => Nat.le_trans (H5.out _ (List.getElem_mem h')) (by decide)
    generalize (tb.map fun t : Tok => { t with at_ := t.at_ + (a.size + 1) }) = tx at *
    rw [Nat.zero_add] at HKXR
    have hn1 : na ≤ 1000000 := by omega
    have hn2 : nb ≤ 1000000 := by omega
    have hsl := slice_tail gx na nb capx (by omega)
    have hm1 : (a.size : Int) + 1 ≤ 1000000 := by omega
    have hm0 : (0 : Int) ≤ (a.size : Int) + 1 := by omega
    have hnn : nb ≤ nb := Nat.le_refl _
    have hn3 : na ≤ na + 1 := by omega
    have hn4 : na + 1 ≤ 1000000 := by omega
    go_quiet (first | (go_at_call 8; with_reducible exact Calls.quiet_of (same_true ta ta na gx 0 _ ga 0 _ _ HNA.out HNA.out hn1 (HKXL.out.drewN _) (HKAL.out.drewN _) HQ1.out)) | (go_at_call 8; with_reducible exact Calls.quiet_of (same_true tx tb nb gx (na * 4) _ gb 0 _ _ HNM.out HNB.out hn2 (HKXR.out.drewN _) (HKB.out.drewN _) HQ2.out)) | (go_at_call 9; with_reducible exact Calls.quiet_of (at_true ta (ta ++ [te]) na (na + 1) gx 0 _ ga 0 _ 0 _ HNA.out HNT.out hn3 hn4 (Int.le_refl 0) (by decide) (HKXL.out.drewN _) (HKA.out.drewN _) HD1.out HQ3.out)) | (go_at_call 9; with_reducible exact Calls.quiet_of (at_true tx tb nb nb gx (na * 4) _ gb 0 _ _ _ HNM.out HNB.out hnn hn2 hm0 hm1 (HKXR.out.drewN _) (HKB.out.drewN _) HD2.out HQ4.out)))
    clear hw1 hw2 hsl
    go_wp2_with fail
    go_ret
    exact ⟨rfl, below_drewN' hbw7 _⟩

end Go.Proofs.YtnciccbgceomeaaDoor
