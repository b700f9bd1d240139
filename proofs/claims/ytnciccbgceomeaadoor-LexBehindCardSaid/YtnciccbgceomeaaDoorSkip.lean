/- What 'skip' does: beyond blanks and remarks. -/
import Derived.Test.YtnciccbgceomeaaDoorMore
namespace Go.Proofs.YtnciccbgceomeaaDoor
open Go.RowKit

set_option maxHeartbeats 1000000 in
/-- 'more', at the scanner's own method 'sameLine'. -/
theorem moreLine_any (b k : Nat) (s : ByteArray) (v : Value) (w : World) (hb : Blk w b s k v) (hk : k ≤ s.size) (hs : s.size ≤ 1000000) :
    Calls Tryd.prog 39 #[.pointer (some ⟨b, 0, none⟩), .func (.func 41) #[.pointer (some ⟨b, 0, none⟩)] #[]] w fun e w' => e = .returned (.string (s.extract k (adv lineB s k))) ∧ Blk w' b s (adv lineB s k) v ∧ w.grownBy w' (some b) := by
  have hcf : ∀ (args : Array Value) (w : World), Sem.run Tryd.prog (callFunc 41 args) w = .ok (.enter 41 args) w := fun _ _ => by kernel_rfl
  have HF := Lib.hid (line_any (.pointer (some ⟨b, 0, none⟩)))
  have hc1 := hb.c1
  go_enter Tryd.func39, Tryd.ntmps39
  go_wp2_with fail
  go_loopg [] (s.size - k) (fun g wr => ∃ j : Nat, k ≤ j ∧ j ≤ s.size ∧ s.size - j = g ∧ Blk wr b s j v ∧ w.grownBy wr (some b) ∧ ∀ i (h : i < s.size), k ≤ i → i < j → lineB s[i] = true)
  case atStart => exact ⟨k, Nat.le_refl _, hk, rfl, hb, grown_refl _ _, fun i _ h1 h2 => by omega⟩
  case round =>
    obtain ⟨j, hkj, hj, hg, hbj, hgr, hall⟩ := hrel
    have HG := Lib.hid hg
    have HA := Lib.hid hall
    clear hg hall hc1
    have c0 := hbj.c0
    have c1 := hbj.c1
    by_cases hlt : j < s.size
    · have hd : decide ((j : Int) < (s.size : Int)) = true := by simp; omega
      cases hi : lineB s[j]
      all_goals go_wp2_with fail
      all_goals go_quiet (exact quiet_same (HF.out _ _))
      · have HE := Lib.hid (adv_eq hkj hj HA.out (fun _ => hi))
        have hb2 := hbj.drewN nq
        have hg2 := grown_drewN hgr nq
        clear c0 c1 hbj hgr
        generalize wr.drewN nq = w2 at *
        have c0 := hb2.c0
        have c1 := hb2.c1
        go_wp2_with fail
        go_quiet (fail)
        go_wp2_with fail
        go_ret
        rw [HE.out]
        exact ⟨rfl, hb2.drewN _, grown_drewN hg2 _⟩
      · have hb2 := hbj.drewN nq
        have hg2 := grown_drewN hgr nq
        clear c0 c1 hbj hgr
        generalize wr.drewN nq = w2 at *
        have c0 := hb2.c0
        have c1 := hb2.c1
        have f1 := hb2.f 1
        go_wp2_with fail
        go_roundg (s.size - (j + 1))
        case measure => have := HG.out; omega
        case rel =>
          refine ⟨j + 1, by omega, by omega, rfl, hb2.set1 (j + 1), grown_setCell hg2 _ _, ?_⟩
          intro i h1 h2 h3
          by_cases e : i = j
          · subst e; exact hi
          · exact HA.out i h1 h2 (by omega)
    · have hd : decide ((j : Int) < (s.size : Int)) = false := by simp; omega
      have HE := Lib.hid (adv_eq (p := lineB) hkj hj HA.out (fun h => absurd h hlt))
      go_wp2_with fail
      go_quiet (fail)
      have hb2 := hbj.drewN nq
      have hg2 := grown_drewN hgr nq
      clear c0 c1 hbj hgr
      generalize wr.drewN nq = w2 at *
      have c0 := hb2.c0
      have c1 := hb2.c1
      go_wp2_with fail
      go_quiet (fail)
      go_wp2_with fail
      go_ret
      rw [HE.out]
      exact ⟨rfl, hb2.drewN _, grown_drewN hg2 _⟩


theorem adv_ge (p : UInt8 → Bool) (s : ByteArray) (k : Nat) : k ≤ adv p s k := Nat.le_add_right _ _
theorem adv_le (p : UInt8 → Bool) (s : ByteArray) (k : Nat) (hk : k ≤ s.size) : adv p s k ≤ s.size := by
  have h1 := (List.takeWhile_sublist p (l := s.data.toList.drop k)).length_le
  have hl : s.data.toList.length = s.size := rfl
  rw [List.length_drop] at h1
  unfold adv
  omega
theorem drop_takeWhile (p : UInt8 → Bool) : ∀ l : List UInt8, l.drop (l.takeWhile p).length = l.dropWhile p
  | [] => rfl
  | c :: r => by
    cases h : p c
    · simp [h]
    · simp [h, drop_takeWhile p r]
theorem adv_drop (p : UInt8 → Bool) (s : ByteArray) (k : Nat) : s.data.toList.drop (adv p s k) = (s.data.toList.drop k).dropWhile p := by
  unfold adv
  rw [← List.drop_drop, drop_takeWhile]
theorem take_takeWhile (p : UInt8 → Bool) : ∀ l : List UInt8, l.take (l.takeWhile p).length = l.takeWhile p
  | [] => rfl
  | c :: r => by
    cases h : p c
    · simp [h]
    · simp [h, take_takeWhile p r]
theorem adv_text (p : UInt8 → Bool) (s : ByteArray) (k : Nat) : (s.extract k (adv p s k)).data.toList = (s.data.toList.drop k).takeWhile p := by
  rw [Lib.extract_data]
  unfold adv
  rw [Nat.add_sub_cancel_left, take_takeWhile]

/-- Beyond blanks and remarks ('true': inside a remark). -/
def skipC : Bool → List UInt8 → List UInt8
  | _, [] => []
  | true, c :: r => if c.toNat = 10 then skipC false r else skipC true r
  | false, c :: r => if blankB c = true then skipC false r else if c.toNat = 35 then skipC true r else c :: r

theorem skipC_blank : ∀ l : List UInt8, skipC false l = skipC false (l.dropWhile blankB)
  | [] => rfl
  | c :: r => by
    by_cases h : blankB c = true
    · rw [List.dropWhile_cons_of_pos h, ← skipC_blank r]; simp [skipC, h]
    · rw [List.dropWhile_cons_of_neg h]
theorem skipC_line : ∀ l : List UInt8, skipC true l = skipC false (l.dropWhile lineB)
  | [] => rfl
  | c :: r => by
    by_cases h : c.toNat = 10
    · have hl : ¬ lineB c = true := by simp [lineB, h]
      have hb : blankB c = true := by simp [blankB, h]
      rw [List.dropWhile_cons_of_neg hl]; simp [skipC, h, hb]
    · have hl : lineB c = true := by simp [lineB, h]
      rw [List.dropWhile_cons_of_pos hl, ← skipC_line r]; simp [skipC, h]
theorem skipC_length : ∀ (b : Bool) (l : List UInt8), (skipC b l).length ≤ l.length
  | _, [] => by simp [skipC]
  | true, c :: r => by
    have h1 := skipC_length false r
    have h2 := skipC_length true r
    simp only [skipC, List.length_cons]
    split <;> omega
  | false, c :: r => by
    have h1 := skipC_length false r
    have h2 := skipC_length true r
    simp only [skipC, List.length_cons]
    split
    · omega
    · split
      · omega
      · simp

/-- Where 'skip' comes to, from a place on. -/
def skipPos (s : ByteArray) (k : Nat) : Nat := s.size - (skipC false (s.data.toList.drop k)).length

theorem drop_at (s : ByteArray) (k : Nat) (h : k < s.size) : s.data.toList.drop k = s[k] :: s.data.toList.drop (k + 1) := by
  rw [List.drop_eq_getElem_cons (by simpa using h)]; rfl

theorem skip_end {s : ByteArray} {k j : Nat} (hj : j ≤ s.size) (he : skipC false (s.data.toList.drop k) = skipC false (s.data.toList.drop j)) (hnb : ∀ h : j < s.size, blankB s[j] = false) (hh : ∀ h : j < s.size, s[j].toNat ≠ 35) : skipPos s k = j := by
  unfold skipPos
  rw [he]
  have hl : s.data.toList.length = s.size := rfl
  by_cases h : j < s.size
  · rw [drop_at s j h]
    have h1 := hnb h
    have h2 := hh h
    simp only [skipC, h1, h2, if_false, Bool.false_eq_true, List.length_cons, List.length_drop]
    omega
  · rw [List.drop_eq_nil_of_le (by omega)]
    simp only [skipC, List.length_nil]
    omega

theorem adv_stop {p : UInt8 → Bool} {s : ByteArray} {k : Nat} (h : adv p s k < s.size) : p s[adv p s k] = false := by
  have e := adv_drop p s k
  rw [drop_at s _ h] at e
  cases hp : p s[adv p s k]
  · rfl
  · exfalso
    have : ∀ l : List UInt8, ∀ c r, c :: r = l.dropWhile p → p c = true → False := by
      intro l
      induction l with
      | nil => intro c r h; simp at h
      | cons x y ih =>
        intro c r h hc
        by_cases hx : p x = true
        · rw [List.dropWhile_cons_of_pos hx] at h; exact ih c r h hc
        · rw [List.dropWhile_cons_of_neg hx] at h
          cases h; exact hx hc
    exact this _ _ _ e hp

set_option maxHeartbeats 1000000 in
theorem skip_any (b k : Nat) (s : ByteArray) (v : Value) (w : World) (hb : Blk w b s k v) (hk : k ≤ s.size) (hs : s.size ≤ 1000000) :
    Calls Tryd.prog 22 #[.pointer (some ⟨b, 0, none⟩)] w fun e w' => e = .returned (.tuple #[]) ∧ Blk w' b s (skipPos s k) v ∧ w.grownBy w' (some b) := by
  go_enter Tryd.func22, Tryd.ntmps22
  go_wp2_with fail
  go_loopg [] (s.size - k) (fun g wr => ∃ j : Nat, j ≤ s.size ∧ s.size - j = g ∧ Blk wr b s j v ∧ w.grownBy wr (some b) ∧ skipC false (s.data.toList.drop k) = skipC false (s.data.toList.drop j))
  case atStart => exact ⟨k, hk, rfl, hb, grown_refl _ _, rfl⟩
  case round =>
    obtain ⟨j, hj, hg, hbj, hgr, hsk⟩ := hrel
    have HG := Lib.hid hg
    have HS := Lib.hid hsk
    clear hg hsk
    go_wp2_with fail
    refine (more_any 40 blankB blank_fn b j s v _ hbj hj hs).mono ?_
    rintro e w1 ⟨rfl, hb1, hg1⟩
    have hge := adv_ge blankB s j
    have hle := adv_le blankB s j hj
    have hst := adv_stop (p := blankB) (s := s) (k := j)
    have hdr := adv_drop blankB s j
    generalize adv blankB s j = j1 at *
    have HST := Lib.hid hst
    have HS1 : Hid (skipC false (s.data.toList.drop k) = skipC false (s.data.toList.drop j1)) := by
      rw [hdr]; exact HS.out.trans (skipC_blank _)
    clear hst hdr HS
    have hg2 := grown_trans hgr hg1
    clear hgr hg1 hbj hb
    have c0 := hb1.c0
    have c1 := hb1.c1
    by_cases hlt : j1 < s.size
    · have hd : ((j1 : Int) == (s.size : Int)) = false := by simp; omega
      by_cases h35 : s[j1].toNat = 35
      · have hd2 : ((s[j1].toNat : Int) != 35) = false := by simp [h35]
        have H35 := Lib.hid h35
        clear h35
        go_wp2_with fail
        go_quiet (fail)
        have hb2 := hb1.drewN nq
        have hg3 := grown_drewN hg2 nq
        clear c0 c1 hb1 hg2
        generalize w1.drewN nq = w2 at *
        go_wp2_with fail
        refine (moreLine_any b j1 s v _ hb2 hle hs).mono ?_
        rintro e w3 ⟨rfl, hb3, hg4⟩
        have hge2 : j1 < adv lineB s j1 := by
          unfold adv
          rw [drop_at s j1 hlt]
          have : lineB s[j1] = true := by simp [lineB, H35.out]
          simp [this]
        have hle2 := adv_le lineB s j1 hle
        have HS2 : Hid (skipC false (s.data.toList.drop k) = skipC false (s.data.toList.drop (adv lineB s j1))) := by
          show skipC false (s.data.toList.drop k) = skipC false (s.data.toList.drop (adv lineB s j1))
          rw [HS1.out, adv_drop, drop_at s j1 hlt]
          have h1 := HST.out hlt
          have h2 := H35.out
          have h3 : lineB s[j1] = true := by simp [lineB, h2]
          rw [List.dropWhile_cons_of_pos h3, ← skipC_line]
          simp [skipC, h1, h2]
        generalize adv lineB s j1 = j2 at *
        go_wp2_with fail
        go_roundg (s.size - j2)
        case measure => have := HG.out; omega
        case rel => exact ⟨j2, hle2, rfl, hb3, grown_trans hg3 hg4, HS2.out⟩
      · have hd2 : ((s[j1].toNat : Int) != 35) = true := by simp; omega
        have HE := Lib.hid (skip_end hle HS1.out HST.out (fun _ => h35))
        clear h35
        go_wp2_with fail
        go_quiet (fail)
        go_wp2_with fail
        refine bodyPost_ret (results_none rfl _ _ _) rfl ?_
        rw [HE.out]
        exact ⟨rfl, hb1.drewN _, grown_drewN hg2 _⟩
    · have hd : ((j1 : Int) == (s.size : Int)) = true := by simp; omega
      have HE := Lib.hid (skip_end hle HS1.out HST.out (fun h => absurd h hlt))
      go_wp2_with fail
      go_quiet (fail)
      go_wp2_with fail
      refine bodyPost_ret (results_none rfl _ _ _) rfl ?_
      rw [HE.out]
      exact ⟨rfl, hb1.drewN _, grown_drewN hg2 _⟩

end Go.Proofs.YtnciccbgceomeaaDoor
