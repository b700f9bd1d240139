/- Joined texts. -/
import Derived.Test.YtijcobeebaceoaaGreatDoorBg
import Derived.Test.YtijcobeebaceoaaGreatDoorBm
import Derived.Test.YtijcobeebaceoaaGreatDoorBu
namespace Go.Proofs.YtijcobeebaceoaaGreatDoor
open Go.RowKit
set_option linter.unusedSimpArgs false
set_option linter.unusedVariables false
set_option linter.unusedSectionVars false

abbrev D (b : ByteArray) (i : Nat) : List UInt8 := b.data.toList.drop i
theorem D_cons {b : ByteArray} {i : Nat} (h : i < b.size) : D b i = b[i] :: D b (i + 1) := Lx.drop_at b i h
theorem D_nil {b : ByteArray} {i : Nat} (h : b.size ≤ i) : D b i = [] := List.drop_eq_nil_of_le (by simpa using h)
theorem D_len (b : ByteArray) (i : Nat) : (D b i).length = b.size - i := by rw [List.length_drop]; rfl
theorem byt_at {b : ByteArray} {i : Nat} (h : i < b.size) : byt b i = (b[i].toNat : Int) := by
  unfold byt
  rw [List.getD_eq_getElem?_getD, Array.getElem?_toList, Array.getElem?_eq_getElem (by simpa using h)]
  rfl
theorem blank_x (c : UInt8) : ev (q113 (cv (c.toNat : Int))) = some (0, [bv (Lx.blankB c)]) := Evl.of (by
  rw [h113, g113]
  by_cases h0 : (c.toNat : Int) = 32
  · by_cases h1 : (c.toNat : Int) = 9
    · by_cases h2 : (c.toNat : Int) = 10
      · by_cases h3 : (c.toNat : Int) = 13
        · cases hb : Lx.blankB c <;> (unfold Lx.blankB at hb; simp at hb; first | (exfalso; omega) | (simp [h0, h1, h2, h3]))
        · cases hb : Lx.blankB c <;> (unfold Lx.blankB at hb; simp at hb; first | (exfalso; omega) | (simp [h0, h1, h2, h3]))
      · by_cases h3 : (c.toNat : Int) = 13
        · cases hb : Lx.blankB c <;> (unfold Lx.blankB at hb; simp at hb; first | (exfalso; omega) | (simp [h0, h1, h2, h3]))
        · cases hb : Lx.blankB c <;> (unfold Lx.blankB at hb; simp at hb; first | (exfalso; omega) | (simp [h0, h1, h2, h3]))
    · by_cases h2 : (c.toNat : Int) = 10
      · by_cases h3 : (c.toNat : Int) = 13
        · cases hb : Lx.blankB c <;> (unfold Lx.blankB at hb; simp at hb; first | (exfalso; omega) | (simp [h0, h1, h2, h3]))
        · cases hb : Lx.blankB c <;> (unfold Lx.blankB at hb; simp at hb; first | (exfalso; omega) | (simp [h0, h1, h2, h3]))
      · by_cases h3 : (c.toNat : Int) = 13
        · cases hb : Lx.blankB c <;> (unfold Lx.blankB at hb; simp at hb; first | (exfalso; omega) | (simp [h0, h1, h2, h3]))
        · cases hb : Lx.blankB c <;> (unfold Lx.blankB at hb; simp at hb; first | (exfalso; omega) | (simp [h0, h1, h2, h3]))
  · by_cases h1 : (c.toNat : Int) = 9
    · by_cases h2 : (c.toNat : Int) = 10
      · by_cases h3 : (c.toNat : Int) = 13
        · cases hb : Lx.blankB c <;> (unfold Lx.blankB at hb; simp at hb; first | (exfalso; omega) | (simp [h0, h1, h2, h3]))
        · cases hb : Lx.blankB c <;> (unfold Lx.blankB at hb; simp at hb; first | (exfalso; omega) | (simp [h0, h1, h2, h3]))
      · by_cases h3 : (c.toNat : Int) = 13
        · cases hb : Lx.blankB c <;> (unfold Lx.blankB at hb; simp at hb; first | (exfalso; omega) | (simp [h0, h1, h2, h3]))
        · cases hb : Lx.blankB c <;> (unfold Lx.blankB at hb; simp at hb; first | (exfalso; omega) | (simp [h0, h1, h2, h3]))
    · by_cases h2 : (c.toNat : Int) = 10
      · by_cases h3 : (c.toNat : Int) = 13
        · cases hb : Lx.blankB c <;> (unfold Lx.blankB at hb; simp at hb; first | (exfalso; omega) | (simp [h0, h1, h2, h3]))
        · cases hb : Lx.blankB c <;> (unfold Lx.blankB at hb; simp at hb; first | (exfalso; omega) | (simp [h0, h1, h2, h3]))
      · by_cases h3 : (c.toNat : Int) = 13
        · cases hb : Lx.blankB c <;> (unfold Lx.blankB at hb; simp at hb; first | (exfalso; omega) | (simp [h0, h1, h2, h3]))
        · cases hb : Lx.blankB c <;> (unfold Lx.blankB at hb; simp at hb; first | (exfalso; omega) | (simp [h0, h1, h2, h3])))
theorem digit_x (c : UInt8) : ev (q115 (cv (c.toNat : Int))) = some (0, [bv (Lx.digitB c)]) := Evl.of (by
  rw [h115, g115]
  by_cases h0 : (48 : Int) ≤ c.toNat
  · by_cases h1 : (c.toNat : Int) ≤ 57
    · cases hb : Lx.digitB c <;> (unfold Lx.digitB at hb; simp at hb; first | (exfalso; omega) | (simp [h0, h1]))
    · cases hb : Lx.digitB c <;> (unfold Lx.digitB at hb; simp at hb; first | (exfalso; omega) | (simp [h0, h1]))
  · by_cases h1 : (c.toNat : Int) ≤ 57
    · cases hb : Lx.digitB c <;> (unfold Lx.digitB at hb; simp at hb; first | (exfalso; omega) | (simp [h0, h1]))
    · cases hb : Lx.digitB c <;> (unfold Lx.digitB at hb; simp at hb; first | (exfalso; omega) | (simp [h0, h1])))
theorem small_x (c : UInt8) : ev (q118 (cv (c.toNat : Int))) = some (0, [bv (Lx.lowB c)]) := Evl.of (by
  rw [h118, g118]
  by_cases h0 : (97 : Int) ≤ c.toNat
  · by_cases h1 : (c.toNat : Int) ≤ 122
    · by_cases h2 : (c.toNat : Int) = 95
      · cases hb : Lx.lowB c <;> (unfold Lx.lowB at hb; simp at hb; first | (exfalso; omega) | (simp [h0, h1, h2]))
      · cases hb : Lx.lowB c <;> (unfold Lx.lowB at hb; simp at hb; first | (exfalso; omega) | (simp [h0, h1, h2]))
    · by_cases h2 : (c.toNat : Int) = 95
      · cases hb : Lx.lowB c <;> (unfold Lx.lowB at hb; simp at hb; first | (exfalso; omega) | (simp [h0, h1, h2]))
      · cases hb : Lx.lowB c <;> (unfold Lx.lowB at hb; simp at hb; first | (exfalso; omega) | (simp [h0, h1, h2]))
  · by_cases h1 : (c.toNat : Int) ≤ 122
    · by_cases h2 : (c.toNat : Int) = 95
      · cases hb : Lx.lowB c <;> (unfold Lx.lowB at hb; simp at hb; first | (exfalso; omega) | (simp [h0, h1, h2]))
      · cases hb : Lx.lowB c <;> (unfold Lx.lowB at hb; simp at hb; first | (exfalso; omega) | (simp [h0, h1, h2]))
    · by_cases h2 : (c.toNat : Int) = 95
      · cases hb : Lx.lowB c <;> (unfold Lx.lowB at hb; simp at hb; first | (exfalso; omega) | (simp [h0, h1, h2]))
      · cases hb : Lx.lowB c <;> (unfold Lx.lowB at hb; simp at hb; first | (exfalso; omega) | (simp [h0, h1, h2])))
theorem great_x (c : UInt8) : ev (q119 (cv (c.toNat : Int))) = some (0, [bv (Lx.upB c)]) := Evl.of (by
  rw [h119, g119]
  by_cases h0 : (65 : Int) ≤ c.toNat
  · by_cases h1 : (c.toNat : Int) ≤ 90
    · cases hb : Lx.upB c <;> (unfold Lx.upB at hb; simp at hb; first | (exfalso; omega) | (simp [h0, h1]))
    · cases hb : Lx.upB c <;> (unfold Lx.upB at hb; simp at hb; first | (exfalso; omega) | (simp [h0, h1]))
  · by_cases h1 : (c.toNat : Int) ≤ 90
    · cases hb : Lx.upB c <;> (unfold Lx.upB at hb; simp at hb; first | (exfalso; omega) | (simp [h0, h1]))
    · cases hb : Lx.upB c <;> (unfold Lx.upB at hb; simp at hb; first | (exfalso; omega) | (simp [h0, h1])))
theorem name_x (c : UInt8) : ev (q143 (cv (c.toNat : Int))) = some (0, [bv (Lx.insideB c)]) := Evl.of (by
  rw [h143, g143]
  unfold Lx.insideB
  cases h1 : Lx.lowB c
  · cases h2 : Lx.upB c
    · cases h3 : Lx.digitB c
      · by_cases h4 : (c.toNat : Int) = 39
        · have h5 : c.toNat = 39 := by omega
          simp [small_x, great_x, digit_x, h1, h2, h3, show decide ((c.toNat : Int) = 39) = true from decide_eq_true h4, show decide (c.toNat = 39) = true from decide_eq_true h5, -decide_eq_true_eq]
        · have h5 : ¬ c.toNat = 39 := by omega
          simp [small_x, great_x, digit_x, h1, h2, h3, h4, h5]
      · simp [small_x, great_x, digit_x, h1, h2, h3]
    · simp [small_x, great_x, digit_x, h1, h2]
  · simp [small_x, great_x, digit_x, h1])
theorem in_xl (t : ByteArray) (c : UInt8) (ht : t.size ≤ 1000000) : ∀ (m i : Nat), t.size - i ≤ m → ev (q142b0a (iv i) (sv t) (cv (c.toNat : Int))) = some (if (D t i).contains c then (0, [bv true]) else (1, [])) := by
  intro m
  induction m with
  | zero =>
    intro i hi
    rw [D_nil (by omega)]
    exact Evl.of (by rw [h142b0a, g142b0a]; simp [show ¬ (i : Int) < (t.size : Int) by omega])
  | succ m ih =>
    intro i hi
    by_cases h1 : i < t.size
    · have h1' : (i : Int) < (t.size : Int) := by omega
      have hx := fun (k : AV → Res) => indS (d := Res.fail) (k := k) h1
      obtain ⟨j, hj⟩ : ∃ j, j = i + 1 := ⟨_, rfl⟩
      have e1 := wone hj (by omega)
      have hc := ih j (by omega)
      rw [D_cons h1, ← hj, List.contains_cons]
      rw [byt_at h1] at hx
      by_cases h2 : t[i] = c
      · have h3 : (c == t[i]) = true := by rw [h2]; exact beq_self_eq_true c
        rw [h3, Bool.true_or]
        exact Evl.of (by rw [h142b0a, g142b0a]; simp [h1', hx, h2])
      · have h3 : (c == t[i]) = false := by rw [beq_eq_false_iff_ne]; exact fun e => h2 e.symm
        have h4 : ¬ (t[i].toNat : Int) = (c.toNat : Int) := by
          intro e
          apply h2
          apply UInt8.toNat_inj.1
          omega
        rw [h3, Bool.false_or]
        exact Evl.of (by rw [h142b0a, g142b0a]; simp [h1', hx, h4, e1, hc])
    · rw [D_nil (by omega)]
      exact Evl.of (by rw [h142b0a, g142b0a]; simp [show ¬ (i : Int) < (t.size : Int) by omega])
theorem in_x (t : ByteArray) (c : UInt8) (ht : t.size ≤ 1000000) : ev (q142 (sv t) (cv (c.toNat : Int))) = some (0, [bv (t.data.toList.contains c)]) := Evl.of (by
  have hc : ev (q142b0a (iv 0) (sv t) (cv (c.toNat : Int))) = _ := in_xl t c ht t.size 0 (by omega)
  rw [show D t 0 = t.data.toList from rfl] at hc
  rw [h142, g142]
  cases hb : t.data.toList.contains c <;> (rw [hb] at hc; simp [hc]))
theorem sign_x (c : UInt8) : ev (q120 (cv (c.toNat : Int))) = some (0, [bv (Lx.symB c)]) := Evl.of (by
  have f := in_x ⟨#[33, 36, 37, 38, 42, 43, 46, 47, 60, 61, 62, 63, 64, 94, 124, 126, 58, 45]⟩ c (by decide)
  have e : (⟨#[33, 36, 37, 38, 42, 43, 46, 47, 60, 61, 62, 63, 64, 94, 124, 126, 58, 45]⟩ : ByteArray).data.toList.contains c = Lx.symB c := rfl
  rw [e] at f
  rw [h120, g120]
  cases hb : Lx.symB c <;> (rw [hb] at f; simp [f]))
theorem among_xl (x : ByteArray) (l : List ByteArray) (hl : l.length ≤ 1000000) : ∀ (m i : Nat), l.length - i ≤ m → ev (q145b0a (iv i) (strs l) (sv x)) = some (if (l.drop i).any (fun y => decide (y = x)) then (0, [bv true]) else (1, [])) := by
  intro m
  induction m with
  | zero =>
    intro i hi
    rw [List.drop_eq_nil_of_le (by omega)]
    exact Evl.of (by rw [h145b0a, g145b0a]; simp [show ¬ (i : Int) < (l.length : Int) by omega])
  | succ m ih =>
    intro i hi
    by_cases h1 : i < l.length
    · have h1' : (i : Int) < (l.length : Int) := by omega
      have hx := fun (k : AV → Res) => idxK_strs (d := Res.fail) (k := k) (List.getElem?_eq_getElem h1)
      obtain ⟨j, hj⟩ : ∃ j, j = i + 1 := ⟨_, rfl⟩
      have e1 := wone hj (by omega)
      have hc := ih j (by omega)
      rw [List.drop_eq_getElem_cons h1, ← hj, List.any_cons]
      by_cases h2 : l[i] = x
      · simp only [h2, decide_true, Bool.true_or]
        exact Evl.of (by rw [h145b0a, g145b0a]; simp [h1', hx, h2])
      · simp only [h2, decide_false, Bool.false_or]
        exact Evl.of (by rw [h145b0a, g145b0a]; simp [h1', hx, h2, e1, hc])
    · rw [List.drop_eq_nil_of_le (by omega)]
      exact Evl.of (by rw [h145b0a, g145b0a]; simp [show ¬ (i : Int) < (l.length : Int) by omega])
theorem among_x (x : ByteArray) (l : List ByteArray) (hl : l.length ≤ 1000000) : ev (q145 (sv x) (strs l)) = some (0, [bv (l.any (fun y => decide (y = x)))]) := Evl.of (by
  have hc : ev (q145b0a (iv 0) (strs l) (sv x)) = _ := among_xl x l hl l.length 0 (by omega)
  rw [List.drop_zero] at hc
  rw [h145, g145]
  cases hb : l.any (fun y => decide (y = x)) <;> (rw [hb] at hc; simp [hc]))
theorem Mark_any (x : ByteArray) : ([⟨#[40]⟩, ⟨#[41]⟩, ⟨#[44]⟩, ⟨#[59]⟩, ⟨#[92]⟩, ⟨#[95]⟩, ⟨#[61]⟩, ⟨#[45, 62]⟩, ⟨#[124]⟩, ⟨#[58]⟩] : List ByteArray).any (fun y => decide (y = x)) = Lx.markB x := by
  unfold Lx.markB Lx.markList
  rw [List.contains_eq_any_beq]
  simp only [List.any_cons, List.any_nil]
  have e : ∀ (l : List UInt8), decide ((⟨l.toArray⟩ : ByteArray) = x) = (x.toList == l) := by
    intro l
    rw [Bool.eq_iff_iff, decide_eq_true_eq, beq_iff_eq]
    constructor
    · rintro rfl; exact Lx.textOf_toList l
    · intro h
      have := Lx.text_eq (s := x) (x := l) (by rw [← h]; exact (ByteArray.toList_eq x).symm)
      exact this.symm
  simp only [← e]
theorem Mark_x (x : ByteArray) : ev (q121 (sv x)) = some (0, [bv (Lx.markB x)]) := Evl.of (by
  have f := among_x x [⟨#[40]⟩, ⟨#[41]⟩, ⟨#[44]⟩, ⟨#[59]⟩, ⟨#[92]⟩, ⟨#[95]⟩, ⟨#[61]⟩, ⟨#[45, 62]⟩, ⟨#[124]⟩, ⟨#[58]⟩] (by decide)
  rw [Mark_any] at f
  simp only [strs, List.map_cons, List.map_nil] at f
  rw [h121, g121]
  cases hb : Lx.markB x <;> (rw [hb] at f; simp [f]))
theorem Key_any (x : ByteArray) : ([⟨#[100, 97, 116, 97]⟩, ⟨#[99, 108, 97, 115, 115]⟩, ⟨#[105, 110, 115, 116, 97, 110, 99, 101]⟩, ⟨#[102, 114, 111, 109]⟩, ⟨#[119, 104, 101, 114, 101]⟩, ⟨#[101, 110, 100]⟩, ⟨#[100, 101, 114, 105, 118, 105, 110, 103]⟩, ⟨#[100, 101, 102]⟩, ⟨#[108, 101, 116]⟩, ⟨#[114, 101, 99]⟩, ⟨#[97, 110, 100]⟩, ⟨#[105, 110]⟩, ⟨#[99, 97, 115, 101]⟩, ⟨#[111, 102]⟩, ⟨#[105, 102]⟩, ⟨#[116, 104, 101, 110]⟩, ⟨#[101, 108, 115, 101]⟩] : List ByteArray).any (fun y => decide (y = x)) = Lx.keyB x := by
  unfold Lx.keyB Lx.keyList
  rw [List.contains_eq_any_beq]
  simp only [List.any_cons, List.any_nil]
  have e : ∀ (l : List UInt8), decide ((⟨l.toArray⟩ : ByteArray) = x) = (x.toList == l) := by
    intro l
    rw [Bool.eq_iff_iff, decide_eq_true_eq, beq_iff_eq]
    constructor
    · rintro rfl; exact Lx.textOf_toList l
    · intro h
      have := Lx.text_eq (s := x) (x := l) (by rw [← h]; exact (ByteArray.toList_eq x).symm)
      exact this.symm
  simp only [← e]
theorem Key_x (x : ByteArray) : ev (q122 (sv x)) = some (0, [bv (Lx.keyB x)]) := Evl.of (by
  have f := among_x x [⟨#[100, 97, 116, 97]⟩, ⟨#[99, 108, 97, 115, 115]⟩, ⟨#[105, 110, 115, 116, 97, 110, 99, 101]⟩, ⟨#[102, 114, 111, 109]⟩, ⟨#[119, 104, 101, 114, 101]⟩, ⟨#[101, 110, 100]⟩, ⟨#[100, 101, 114, 105, 118, 105, 110, 103]⟩, ⟨#[100, 101, 102]⟩, ⟨#[108, 101, 116]⟩, ⟨#[114, 101, 99]⟩, ⟨#[97, 110, 100]⟩, ⟨#[105, 110]⟩, ⟨#[99, 97, 115, 101]⟩, ⟨#[111, 102]⟩, ⟨#[105, 102]⟩, ⟨#[116, 104, 101, 110]⟩, ⟨#[101, 108, 115, 101]⟩] (by decide)
  rw [Key_any] at f
  simp only [strs, List.map_cons, List.map_nil] at f
  rw [h122, g122]
  cases hb : Lx.keyB x <;> (rw [hb] at f; simp [f]))
end Go.Proofs.YtijcobeebaceoaaGreatDoor
namespace Go.Proofs.YtijcobeebaceoaaGreatDoor
open Go.RowKit
set_option linter.unusedSimpArgs false
set_option linter.unusedVariables false
set_option linter.unusedSectionVars false

theorem adv_yes {p : UInt8 → Bool} {b : ByteArray} {i : Nat} (h : i < b.size) (hp : p b[i] = true) : Lx.adv p b i = Lx.adv p b (i + 1) := by
  unfold Lx.adv
  rw [show b.data.toList.drop i = b[i] :: b.data.toList.drop (i + 1) from D_cons h, List.takeWhile_cons_of_pos hp, List.length_cons]; omega
theorem adv_no {p : UInt8 → Bool} {b : ByteArray} {i : Nat} (h : i < b.size) (hp : p b[i] = false) : Lx.adv p b i = i := by
  unfold Lx.adv
  rw [show b.data.toList.drop i = b[i] :: b.data.toList.drop (i + 1) from D_cons h, List.takeWhile_cons_of_neg (by simp [hp])]; rfl
theorem adv_out {p : UInt8 → Bool} {b : ByteArray} {i : Nat} (h : b.size ≤ i) : Lx.adv p b i = i := by
  unfold Lx.adv
  rw [show b.data.toList.drop i = [] from D_nil h]; rfl
theorem over_xr (b : ByteArray) (hb : b.size ≤ 1000000) : ∀ (m i : Nat), b.size - i ≤ m → ev (q84b2a (iv i) (sv b)) = some (0, [iv (Lx.adv Lx.lineB b i : Nat), sv b]) := by
  intro m
  induction m with
  | zero => exact fun i hi => by rw [adv_out (by omega)]; exact Evl.of (by rw [h84b2a, g84b2a]; simp [show ¬ (i : Int) < (b.size : Int) by omega])
  | succ m ih =>
    intro i hi
    by_cases h1 : i < b.size
    · have h1' : (i : Int) < (b.size : Int) := by omega
      have hx := fun (k : AV → Res) => indS (d := Res.fail) (k := k) h1
      rw [byt_at h1] at hx
      obtain ⟨j, hj⟩ : ∃ j, j = i + 1 := ⟨_, rfl⟩
      have e1 := wone hj (by omega)
      by_cases h2 : b[i].toNat = 10
      · rw [adv_no h1 (by simp [Lx.lineB, h2])]
        have h3 : (b[i].toNat : Int) = 10 := by omega
        rw [h3] at hx
        exact Evl.of (by rw [h84b2a, g84b2a]; simp [h1', hx])
      · rw [adv_yes h1 (by simp [Lx.lineB, h2]), ← hj]
        have h3 : ¬ (b[i].toNat : Int) = 10 := by omega
        have g := ih j (by omega)
        exact Evl.of (by rw [h84b2a, g84b2a]; simp [h1', hx, h3, e1, g])
    · rw [adv_out (by omega)]
      exact Evl.of (by rw [h84b2a, g84b2a]; simp [show ¬ (i : Int) < (b.size : Int) by omega])
theorem skip_blank {b : ByteArray} {i : Nat} (h : i < b.size) (hc : Lx.blankB b[i] = true) : Lx.skipPos b i = Lx.skipPos b (i + 1) := by
  unfold Lx.skipPos
  rw [show b.data.toList.drop i = b[i] :: b.data.toList.drop (i + 1) from D_cons h]
  simp [Lx.skipC, hc]
theorem skip_rem {b : ByteArray} {i : Nat} (h : i < b.size) (hc : Lx.blankB b[i] = false) (h2 : b[i].toNat = 35) : Lx.skipPos b i = Lx.skipPos b (Lx.adv Lx.lineB b (i + 1)) := by
  unfold Lx.skipPos
  rw [Lx.adv_drop, ← Lx.skipC_line, show b.data.toList.drop i = b[i] :: b.data.toList.drop (i + 1) from D_cons h]
  simp [Lx.skipC, hc, h2]
theorem skip_not {b : ByteArray} {i : Nat} (h : i < b.size) (hc : Lx.blankB b[i] = false) (h2 : ¬ b[i].toNat = 35) : Lx.skipPos b i = i := by
  unfold Lx.skipPos
  rw [show b.data.toList.drop i = b[i] :: b.data.toList.drop (i + 1) from D_cons h]
  have hl := D_len b (i + 1)
  simp [Lx.skipC, hc, h2]
  omega
theorem skip_out {b : ByteArray} {i : Nat} (h : b.size ≤ i) : Lx.skipPos b i = b.size := by
  unfold Lx.skipPos
  rw [show b.data.toList.drop i = [] from D_nil h]
  simp [Lx.skipC]
theorem over_xl (b : ByteArray) (hb : b.size ≤ 1000000) : ∀ (m i : Nat), b.size - i ≤ m → i ≤ b.size → ev (q84b0a (iv i) (sv b)) = some (0, [iv (Lx.skipPos b i : Nat)]) := by
  intro m
  induction m with
  | zero => exact fun i hi hl => by rw [skip_out (by omega), show b.size = i by omega]; exact Evl.of (by rw [h84b0a, g84b0a]; simp [show ¬ (i : Int) < (b.size : Int) by omega])
  | succ m ih =>
    intro i hi hl
    by_cases h1 : i < b.size
    · have h1' : (i : Int) < (b.size : Int) := by omega
      have hx := fun (k : AV → Res) => indS (d := Res.fail) (k := k) h1
      rw [byt_at h1] at hx
      have hb0 := blank_x b[i]
      obtain ⟨j, hj⟩ : ∃ j, j = i + 1 := ⟨_, rfl⟩
      have e1 := wone hj (by omega)
      cases hc : Lx.blankB b[i] with
      | true =>
        rw [hc] at hb0
        have h2 : ¬ (b[i].toNat : Int) = 35 := by
          intro e
          unfold Lx.blankB at hc
          rw [decide_eq_true_eq] at hc
          omega
        rw [skip_blank h1 hc, ← hj]
        have f := ih j (by omega) (by omega)
        exact Evl.of (by rw [h84b0a, g84b0a]; simp [h1', hx, h2, hb0, e1, f])
      | false =>
        rw [hc] at hb0
        by_cases h2 : b[i].toNat = 35
        · have h2' : (b[i].toNat : Int) = 35 := by omega
          rw [skip_rem h1 hc h2, ← hj]
          have g := over_xr b hb m i
          have gi : ev (q84b2a (iv i) (sv b)) = some (0, [iv (Lx.adv Lx.lineB b j : Nat), sv b]) := by
            rw [over_xr b hb _ i (Nat.le_refl _), adv_yes h1 (by simp [Lx.lineB, h2]), ← hj]
          have hle := Lx.adv_le Lx.lineB b j (by omega)
          have hge := Lx.adv_ge Lx.lineB b j
          have f := ih (Lx.adv Lx.lineB b j) (by omega) hle
          rw [h2'] at hx hb0
          exact Evl.of (by rw [h84b0a, g84b0a]; simp [h1', hx, hb0, gi, f])
        · have h2' : ¬ (b[i].toNat : Int) = 35 := by omega
          rw [skip_not h1 hc h2]
          exact Evl.of (by rw [h84b0a, g84b0a]; simp [h1', hx, h2', hb0])
    · rw [skip_out (by omega), show b.size = i by omega]
      exact Evl.of (by rw [h84b0a, g84b0a]; simp [show ¬ (i : Int) < (b.size : Int) by omega])
theorem over_x (b : ByteArray) (hb : b.size ≤ 1000000) (i : Nat) (hi : i ≤ b.size) : ev (q84 (sv b) (iv i)) = some (0, [iv (Lx.skipPos b i : Nat)]) :=
  Evl.of (by rw [h84, g84]; simp [over_xl b hb _ i (Nat.le_refl _) hi])
theorem end_x1l (b : ByteArray) (hb : b.size ≤ 1000000) : ∀ (m i : Nat), b.size - i ≤ m → ev (q116b0a (iv i) (sv b) (iv 1)) = some (0, [iv (Lx.adv Lx.insideB b i : Nat)]) := by
  intro m
  induction m with
  | zero => exact fun i hi => by rw [adv_out (by omega)]; exact Evl.of (by rw [h116b0a, g116b0a]; simp [show ¬ (i : Int) < (b.size : Int) by omega])
  | succ m ih =>
    intro i hi
    by_cases h1 : i < b.size
    · have h1' : (i : Int) < (b.size : Int) := by omega
      have hx := fun (k : AV → Res) => indS (d := Res.fail) (k := k) h1
      rw [byt_at h1] at hx
      have hb0 := name_x b[i]
      cases hc : Lx.insideB b[i] with
      | true =>
        obtain ⟨j, hj⟩ : ∃ j, j = i + 1 := ⟨_, rfl⟩
        have e1 := wone hj (by omega)
        have f := ih j (by omega)
        rw [adv_yes h1 hc, ← hj]
        exact Evl.of (by rw [h116b0a, g116b0a]; rw [hc] at hb0; simp [h1', hx]; simp [hb0]; simp [e1, f])
      | false =>
        rw [adv_no h1 hc]
        exact Evl.of (by rw [h116b0a, g116b0a]; rw [hc] at hb0; simp [h1', hx]; simp [hb0])
    · rw [adv_out (by omega)]
      exact Evl.of (by rw [h116b0a, g116b0a]; simp [show ¬ (i : Int) < (b.size : Int) by omega])
theorem end_x1 (b : ByteArray) (hb : b.size ≤ 1000000) (i : Nat) : ev (q116 (sv b) (iv i) (iv 1)) = some (0, [iv (Lx.adv Lx.insideB b i : Nat)]) :=
  Evl.of (by rw [h116, g116]; simp [end_x1l b hb _ i (Nat.le_refl _)])
theorem end_x2l (b : ByteArray) (hb : b.size ≤ 1000000) : ∀ (m i : Nat), b.size - i ≤ m → ev (q116b0a (iv i) (sv b) (iv 2)) = some (0, [iv (Lx.adv Lx.digitB b i : Nat)]) := by
  intro m
  induction m with
  | zero => exact fun i hi => by rw [adv_out (by omega)]; exact Evl.of (by rw [h116b0a, g116b0a]; simp [show ¬ (i : Int) < (b.size : Int) by omega])
  | succ m ih =>
    intro i hi
    by_cases h1 : i < b.size
    · have h1' : (i : Int) < (b.size : Int) := by omega
      have hx := fun (k : AV → Res) => indS (d := Res.fail) (k := k) h1
      rw [byt_at h1] at hx
      have hb0 := digit_x b[i]
      cases hc : Lx.digitB b[i] with
      | true =>
        obtain ⟨j, hj⟩ : ∃ j, j = i + 1 := ⟨_, rfl⟩
        have e1 := wone hj (by omega)
        have f := ih j (by omega)
        rw [adv_yes h1 hc, ← hj]
        exact Evl.of (by rw [h116b0a, g116b0a]; rw [hc] at hb0; simp [h1', hx]; simp [hb0]; simp [e1, f])
      | false =>
        rw [adv_no h1 hc]
        exact Evl.of (by rw [h116b0a, g116b0a]; rw [hc] at hb0; simp [h1', hx]; simp [hb0])
    · rw [adv_out (by omega)]
      exact Evl.of (by rw [h116b0a, g116b0a]; simp [show ¬ (i : Int) < (b.size : Int) by omega])
theorem end_x2 (b : ByteArray) (hb : b.size ≤ 1000000) (i : Nat) : ev (q116 (sv b) (iv i) (iv 2)) = some (0, [iv (Lx.adv Lx.digitB b i : Nat)]) :=
  Evl.of (by rw [h116, g116]; simp [end_x2l b hb _ i (Nat.le_refl _)])
theorem end_x3l (b : ByteArray) (hb : b.size ≤ 1000000) : ∀ (m i : Nat), b.size - i ≤ m → ev (q116b0a (iv i) (sv b) (iv 3)) = some (0, [iv (Lx.adv Lx.symB b i : Nat)]) := by
  intro m
  induction m with
  | zero => exact fun i hi => by rw [adv_out (by omega)]; exact Evl.of (by rw [h116b0a, g116b0a]; simp [show ¬ (i : Int) < (b.size : Int) by omega])
  | succ m ih =>
    intro i hi
    by_cases h1 : i < b.size
    · have h1' : (i : Int) < (b.size : Int) := by omega
      have hx := fun (k : AV → Res) => indS (d := Res.fail) (k := k) h1
      rw [byt_at h1] at hx
      have hb0 := sign_x b[i]
      cases hc : Lx.symB b[i] with
      | true =>
        obtain ⟨j, hj⟩ : ∃ j, j = i + 1 := ⟨_, rfl⟩
        have e1 := wone hj (by omega)
        have f := ih j (by omega)
        rw [adv_yes h1 hc, ← hj]
        exact Evl.of (by rw [h116b0a, g116b0a]; rw [hc] at hb0; simp [h1', hx]; simp [hb0]; simp [e1, f])
      | false =>
        rw [adv_no h1 hc]
        exact Evl.of (by rw [h116b0a, g116b0a]; rw [hc] at hb0; simp [h1', hx]; simp [hb0])
    · rw [adv_out (by omega)]
      exact Evl.of (by rw [h116b0a, g116b0a]; simp [show ¬ (i : Int) < (b.size : Int) by omega])
theorem end_x3 (b : ByteArray) (hb : b.size ≤ 1000000) (i : Nat) : ev (q116 (sv b) (iv i) (iv 3)) = some (0, [iv (Lx.adv Lx.symB b i : Nat)]) :=
  Evl.of (by rw [h116, g116]; simp [end_x3l b hb _ i (Nat.le_refl _)])
/-! Texts. -/
abbrev nats (l : List UInt8) : List Int := l.map fun c => (c.toNat : Int)
theorem strB_go : ∀ (l : List UInt8) (r : ByteArray), (nats l).foldl (fun r n => r.push (UInt8.ofNat n.toNat)) r = ⟨(r.data.toList ++ l).toArray⟩
  | [], r => by simp [nats]
  | c :: l, r => by
    have h := strB_go l (r.push c)
    have e : UInt8.ofNat ((c.toNat : Int)).toNat = c := by simp
    simp only [nats, List.map_cons, List.foldl_cons, e]
    rw [show (List.map (fun c => (c.toNat : Int)) l) = nats l from rfl, h]
    congr 2
    rw [show (r.push c).data = r.data.push c from rfl, Array.toList_push, List.append_assoc]; rfl
theorem strB_nats (l : List UInt8) : strB (nats l) = Lx.textOf l := by
  unfold strB
  rw [strB_go l ByteArray.empty]; rfl
def TxR (b : ByteArray) (i : Nat) (acc : List UInt8) (r : Option Rs) : Prop := match Lx.textL (D b i) with
  | none => r = some (1, []) ∨ r = some (0, [sv eB, iv 0, bv false])
  | some (x, rest) => r = some (0, [sv (Lx.textOf (acc ++ x)), iv (b.size - rest.length : Nat), bv true])
theorem TxR.pass {b : ByteArray} {i j : Nat} {acc : List UInt8} {q q' : Q} {x : UInt8} (h : body PG EE TT ev q = passK (ev q')) (ht : Lx.textL (D b i) = (Lx.textL (D b j)).map fun p => (x :: p.1, p.2)) (hg : TxR b j (acc ++ [x]) (ev q')) : TxR b i acc (ev q) := by
  unfold TxR at *
  rw [ht]
  cases he : Lx.textL (D b j) with
  | none =>
    rw [he] at hg
    rcases hg with hg | hg
    · exact .inl (pass_to h hg)
    · exact .inr (pass_to h hg)
  | some p =>
    rw [he] at hg
    simp only [List.append_assoc, List.singleton_append] at hg
    exact pass_to h hg
theorem esc_all : (List.range 256).all (fun n => ([110, 116, 34, 92] : List UInt8).contains (UInt8.ofNat n) == (Lx.escC (UInt8.ofNat n)).isSome) = true := by kernel_rfl
theorem esc_in (d : UInt8) : (⟨#[110, 116, 34, 92]⟩ : ByteArray).data.toList.contains d = (Lx.escC d).isSome := by
  have h := List.all_eq_true.1 esc_all d.toNat (List.mem_range.2 d.toNat_lt)
  rw [beq_iff_eq] at h
  have e : UInt8.ofNat d.toNat = d := by simp
  rw [e] at h
  exact h
theorem esc_of {d x : UInt8} (h : Lx.escC d = some x) : ((d.toNat : Int) = 110 ∧ x = 10) ∨ ((d.toNat : Int) = 116 ∧ x = 9) ∨ (¬ (d.toNat : Int) = 110 ∧ ¬ (d.toNat : Int) = 116 ∧ x = d) := by
  unfold Lx.escC at h
  split at h
  · cases h; exact .inl ⟨by omega, rfl⟩
  · split at h
    · cases h; exact .inr (.inl ⟨by omega, rfl⟩)
    · split at h
      · rename_i h1
        cases h; exact .inr (.inr ⟨by omega, by omega, UInt8.toNat_inj.1 (by rw [h1]; rfl)⟩)
      · split at h
        · rename_i h1
          cases h; exact .inr (.inr ⟨by omega, by omega, UInt8.toNat_inj.1 (by rw [h1]; rfl)⟩)
        · cases h
theorem brow_nats (acc : List UInt8) (x : UInt8) : brow (nats acc) ++ [[cv (x.toNat : Int)]] = brow (nats (acc ++ [x])) := by simp [brow, nats]
theorem text_xb (b : ByteArray) (hb : b.size ≤ 1000000) : ∀ (m i : Nat) (acc : List UInt8), b.size - i ≤ m → acc.length + m ≤ 2000000 → TxR b i acc (ev (q114b0b (iv i) (sv b) (brow (nats acc)))) := by
  intro m
  induction m with
  | zero =>
    intro i acc hi hl
    unfold TxR
    rw [D_nil (by omega)]
    exact .inl (Evl.of (by rw [h114b0b, g114b0b]; simp [show ¬ (i : Int) < (b.size : Int) by omega]))
  | succ m ih =>
    intro i acc hi hl
    have hap := fun (n : Int) (k : PV → Res) => appK_by (nats acc) n k (by simp; omega)
    by_cases h1 : i < b.size
    · have h1' : (i : Int) < (b.size : Int) := by omega
      have hx := fun (k : AV → Res) => indS (d := Res.fail) (k := k) h1
      rw [byt_at h1] at hx
      obtain ⟨j, hj⟩ : ∃ j, j = i + 1 := ⟨_, rfl⟩
      have e1 := wone hj (by omega)
      have hT := Lx.textL_cons b[i] (D b (i + 1))
      rw [← D_cons h1, ← hj] at hT
      by_cases h2 : b[i].toNat = 34
      · have h2' : (b[i].toNat : Int) = 34 := by omega
        rw [h2'] at hx
        unfold TxR
        rw [hT, if_pos h2]
        have hl := D_len b j
        simp only [List.append_nil]
        rw [hl, show b.size - (b.size - j) = j by omega]
        exact Evl.of (by rw [h114b0b, g114b0b]; simp [h1', hx, convBS, strB_nats, e1])
      · have h2' : ¬ (b[i].toNat : Int) = 34 := by omega
        rw [if_neg h2] at hT
        by_cases h3 : b[i].toNat = 10
        · have h3' : (b[i].toNat : Int) = 10 := by omega
          rw [h3'] at hx
          unfold TxR
          rw [hT, if_pos h3]
          exact .inr (Evl.of (by rw [h114b0b, g114b0b]; simp [h1', hx]))
        · have h3' : ¬ (b[i].toNat : Int) = 10 := by omega
          rw [if_neg h3] at hT
          by_cases h4 : b[i].toNat = 92
          · have h4' : (b[i].toNat : Int) = 92 := by omega
            rw [if_pos h4] at hT
            rw [h4'] at hx
            by_cases h5 : j < b.size
            · have h5' : ¬ (j : Int) = (b.size : Int) := by omega
              have hy := fun (k : AV → Res) => indS (d := Res.fail) (k := k) (s := b) (i := j) h5
              rw [byt_at h5] at hy
              obtain ⟨z, hz⟩ : ∃ z, z = j + 1 := ⟨_, rfl⟩
              have e2 := wone hz (by omega)
              rw [D_cons h5, ← hz] at hT
              simp only at hT
              have hi := in_x ⟨#[110, 116, 34, 92]⟩ b[j] (by decide)
              have hin : (⟨#[110, 116, 34, 92]⟩ : ByteArray).data.toList.contains b[j] = (Lx.escC b[j]).isSome := esc_in b[j]
              rw [hin] at hi
              cases hc : Lx.escC b[j] with
              | none =>
                rw [hc] at hi hT
                unfold TxR
                rw [hT]
                exact .inr (Evl.of (by rw [h114b0b, g114b0b]; simp [h1', hx, e1, h5']; simp [hy, hi]))
              | some x =>
                rw [hc] at hi hT
                simp only at hT
                refine TxR.pass (q' := q114b0b (iv z) (sv b) (brow (nats (acc ++ [x])))) ?_ hT (ih z (acc ++ [x]) (by omega) (by simp; omega))
                rw [h114b0b, g114b0b]
                simp [h1', hx, e1, h5']
                rcases esc_of hc with ⟨h6, rfl⟩ | ⟨h6, rfl⟩ | ⟨h6, h7, rfl⟩
                · rw [h6] at hi hy
                  simp [hy, hi, e2, hap, nats]
                · rw [h6] at hi hy
                  simp [hy, hi, e2, hap, nats]
                · simp [hy, hi, h6, h7, e2, hap, nats]
            · have h5' : (j : Int) = (b.size : Int) := by omega
              rw [D_nil (b := b) (i := j) (by omega)] at hT
              simp only at hT
              unfold TxR
              rw [hT]
              exact .inr (Evl.of (by rw [h114b0b, g114b0b]; simp [h1', hx, e1, h5']))
          · have h4' : ¬ (b[i].toNat : Int) = 92 := by omega
            rw [if_neg h4] at hT
            refine TxR.pass (q' := q114b0b (iv j) (sv b) (brow (nats (acc ++ [b[i]])))) ?_ hT (ih j (acc ++ [b[i]]) (by omega) (by simp; omega))
            rw [h114b0b, g114b0b]
            simp [h1', hx, h2', h3', h4', e1, hap, nats]
    · unfold TxR
      rw [D_nil (by omega)]
      exact .inl (Evl.of (by rw [h114b0b, g114b0b]; simp [show ¬ (i : Int) < (b.size : Int) by omega]))
theorem text_xa (b : ByteArray) (hb : b.size ≤ 1000000) (i : Nat) : TxR b i [] (ev (q114b0a (iv i) (sv b))) := by
  by_cases h1 : i < b.size
  · have h1' : (i : Int) < (b.size : Int) := by omega
    have hx := fun (k : AV → Res) => indS (d := Res.fail) (k := k) h1
    rw [byt_at h1] at hx
    obtain ⟨j, hj⟩ : ∃ j, j = i + 1 := ⟨_, rfl⟩
    have e1 := wone hj (by omega)
    have hT := Lx.textL_cons b[i] (D b (i + 1))
    rw [← D_cons h1, ← hj] at hT
    by_cases h2 : b[i].toNat = 34
    · have h2' : (b[i].toNat : Int) = 34 := by omega
      rw [h2'] at hx
      unfold TxR
      rw [hT, if_pos h2]
      have hl := D_len b j
      simp only [List.append_nil]
      rw [hl, show b.size - (b.size - j) = j by omega]
      exact Evl.of (by rw [h114b0a, g114b0a]; simp [h1', hx, Lx.textOf, e1])
    · have h2' : ¬ (b[i].toNat : Int) = 34 := by omega
      rw [if_neg h2] at hT
      by_cases h3 : b[i].toNat = 10
      · have h3' : (b[i].toNat : Int) = 10 := by omega
        rw [h3'] at hx
        unfold TxR
        rw [hT, if_pos h3]
        exact .inr (Evl.of (by rw [h114b0a, g114b0a]; simp [h1', hx]))
      · have h3' : ¬ (b[i].toNat : Int) = 10 := by omega
        rw [if_neg h3] at hT
        by_cases h4 : b[i].toNat = 92
        · have h4' : (b[i].toNat : Int) = 92 := by omega
          rw [if_pos h4] at hT
          rw [h4'] at hx
          by_cases h5 : j < b.size
          · have h5' : ¬ (j : Int) = (b.size : Int) := by omega
            have hy := fun (k : AV → Res) => indS (d := Res.fail) (k := k) (s := b) (i := j) h5
            rw [byt_at h5] at hy
            obtain ⟨z, hz⟩ : ∃ z, z = j + 1 := ⟨_, rfl⟩
            have e2 := wone hz (by omega)
            rw [D_cons h5, ← hz] at hT
            simp only at hT
            have hi := in_x ⟨#[110, 116, 34, 92]⟩ b[j] (by decide)
            have hin : (⟨#[110, 116, 34, 92]⟩ : ByteArray).data.toList.contains b[j] = (Lx.escC b[j]).isSome := esc_in b[j]
            rw [hin] at hi
            cases hc : Lx.escC b[j] with
            | none =>
              rw [hc] at hi hT
              unfold TxR
              rw [hT]
              exact .inr (Evl.of (by rw [h114b0a, g114b0a]; simp [h1', hx, e1, h5']; simp [hy, hi]))
            | some x =>
              rw [hc] at hi hT
              simp only at hT
              refine TxR.pass (q' := q114b0b (iv z) (sv b) (brow (nats ([] ++ [x])))) ?_ hT (text_xb b hb _ z ([] ++ [x]) (Nat.le_refl _) (by simp; omega))
              rw [h114b0a, g114b0a]
              simp [h1', hx, e1, h5']
              rcases esc_of hc with ⟨h6, rfl⟩ | ⟨h6, rfl⟩ | ⟨h6, h7, rfl⟩
              · rw [h6] at hi hy
                simp [hy, hi, e2, brow, nats]
              · rw [h6] at hi hy
                simp [hy, hi, e2, brow, nats]
              · simp [hy, hi, h6, h7, e2, brow, nats]
          · have h5' : (j : Int) = (b.size : Int) := by omega
            rw [D_nil (b := b) (i := j) (by omega)] at hT
            simp only at hT
            unfold TxR
            rw [hT]
            exact .inr (Evl.of (by rw [h114b0a, g114b0a]; simp [h1', hx, e1, h5']))
        · have h4' : ¬ (b[i].toNat : Int) = 92 := by omega
          rw [if_neg h4] at hT
          refine TxR.pass (q' := q114b0b (iv j) (sv b) (brow (nats ([] ++ [b[i]])))) ?_ hT (text_xb b hb _ j ([] ++ [b[i]]) (Nat.le_refl _) (by simp; omega))
          rw [h114b0a, g114b0a]
          simp [h1', hx, h2', h3', h4', e1, brow, nats]
  · unfold TxR
    rw [D_nil (by omega)]
    exact .inl (Evl.of (by rw [h114b0a, g114b0a]; simp [show ¬ (i : Int) < (b.size : Int) by omega]))
theorem text_x (b : ByteArray) (hb : b.size ≤ 1000000) (i : Nat) (hi : i < b.size) : ev (q114 (sv b) (iv i)) = some (0, match Lx.textL (D b (i + 1)) with
    | none => [sv eB, iv 0, bv false]
    | some (x, rest) => [sv (Lx.textOf x), iv (b.size - rest.length : Nat), bv true]) := by
  obtain ⟨k, hk⟩ : ∃ k, k = i + 1 := ⟨_, rfl⟩
  have e1 := wone hk (by omega)
  have h0 := text_xa b hb k
  unfold TxR at h0
  rw [← hk]
  cases hT : Lx.textL (D b k) with
  | none =>
    rw [hT] at h0
    rcases h0 with h0 | h0
    · exact Evl.of (by rw [h114, g114]; simp [e1, h0])
    · exact Evl.of (by rw [h114, g114]; simp [e1, h0])
  | some p =>
    rw [hT] at h0
    simp only [List.nil_append] at h0
    exact Evl.of (by rw [h114, g114]; simp [e1, h0])
end Go.Proofs.YtijcobeebaceoaaGreatDoor
namespace Go.Proofs.YtijcobeebaceoaaGreatDoor
open Go.RowKit
set_option linter.unusedSimpArgs false
set_option linter.unusedVariables false
set_option linter.unusedSectionVars false

theorem tmod_lt {n m : Int} (h0 : 0 ≤ n) (h1 : n < m) : n.tmod m = n := by
  rw [Int.tmod_eq_emod_of_nonneg h0]; exact Int.emod_eq_of_lt h0 h1
theorem wrapU_id {n : Int} (h0 : 0 ≤ n) (h1 : n < 18446744073709551616) : IntKind.u64.wrap n = n := by
  simp [IntKind.wrap, IntKind.signed, IntKind.bits]; omega
theorem wrap8_id {n : Int} (h0 : 0 ≤ n) (h1 : n < 256) : IntKind.u8.wrap n = n := by
  simp [IntKind.wrap, IntKind.signed, IntKind.bits]; omega
theorem mod_x {n : Int} (h0 : 0 ≤ n) (h1 : n < 4611686018427387904) : ev (q166 (iv n)) = some (0, [wv n]) := Evl.of (by
  rw [h166, g166]
  simp [rem63, wrapU_id h0 (by omega), tmod_lt h0 (show n < 9223372036854775808 by omega)])
theorem mean_x {n : Int} (h0 : 0 ≤ n) (h1 : n < 4611686018427387904) : ev (q165 (wv n)) = some (0, [iv n]) := Evl.of (by
  rw [h165, g165]
  simp [show ¬ 4611686018427387904 ≤ n by omega, wrap_id (n := n) (by omega)])
theorem signed_x {n : Int} (h0 : 0 ≤ n) (h1 : n < 4611686018427387904) : ev (q144g1 (wv n)) = some (0, [iv n]) := Evl.of (by
  have hw : ev (q157 (iv n)) = some (0, [iv n]) := Evl.of (by rw [h157, g157]; simp [mod_x h0 h1, mean_x h0 h1])
  rw [h144g1, g144g1]
  simp [rem63, tmod_lt h0 (show n < 9223372036854775808 by omega), wrap_id (n := n) (by omega), hw])
theorem digit_of {c : UInt8} (h : Lx.digitB c = true) : 48 ≤ (c.toNat : Int) ∧ (c.toNat : Int) ≤ 57 := by
  unfold Lx.digitB at h
  rw [decide_eq_true_eq] at h
  omega
theorem parse_0x (s : ByteArray) (hs : s.size ≤ 1000000) : ∀ (m i : Nat), s.size - i ≤ m → (D s i).all Lx.digitB = true → ev (q117b0b (iv i) (sv s)) = some (1, [iv 0, sv s, bv false]) := by
  intro m
  induction m with
  | zero => exact fun i hi _ => Evl.of (by rw [h117b0b, g117b0b]; simp [show ¬ (i : Int) < (s.size : Int) by omega])
  | succ m ih =>
    intro i hi hd
    by_cases h1 : i < s.size
    · have h1' : (i : Int) < (s.size : Int) := by omega
      have hx := fun (k : AV → Res) => indS (d := Res.fail) (k := k) h1
      rw [byt_at h1] at hx
      obtain ⟨j, hj⟩ : ∃ j, j = i + 1 := ⟨_, rfl⟩
      have e1 := wone hj (by omega)
      rw [D_cons h1, ← hj, List.all_cons, Bool.and_eq_true] at hd
      obtain ⟨d1, d2⟩ := digit_of hd.1
      have g := ih j (by omega) hd.2
      exact Evl.of (by rw [h117b0b, g117b0b]; simp [h1', hx, show ¬ (s[i].toNat : Int) < 48 by omega, show ¬ 57 < (s[i].toNat : Int) by omega, e1, g])
    · exact Evl.of (by rw [h117b0b, g117b0b]; simp [show ¬ (i : Int) < (s.size : Int) by omega])
theorem step_true (l : List UInt8) : ∀ a : Int × Bool, a.2 = true → (l.foldl Lx.stepD a).2 = true := by
  induction l with
  | nil => intro a h; exact h
  | cons c r ih =>
    intro a h
    rw [List.foldl_cons]
    apply ih
    unfold Lx.stepD
    rw [if_pos h]; exact h
theorem parse_2x (s : ByteArray) (hs : s.size ≤ 1000000) : ∀ (m i : Nat) (z : Int), s.size - i ≤ m → (D s i).all Lx.digitB = true →
    ev (q117b2b (iv i) (sv s) (wv z)) = some (if ((D s i).foldl Lx.stepD (z, false)).2 then (0, [iv 0, iv 3]) else (1, [wv ((D s i).foldl Lx.stepD (z, false)).1, bv false])) := by
  intro m
  induction m with
  | zero =>
    intro i z hi _
    rw [D_nil (by omega)]
    exact Evl.of (by rw [h117b2b, g117b2b]; simp [show ¬ (i : Int) < (s.size : Int) by omega])
  | succ m ih =>
    intro i z hi hd
    by_cases h1 : i < s.size
    · have h1' : (i : Int) < (s.size : Int) := by omega
      have hx := fun (k : AV → Res) => indS (d := Res.fail) (k := k) h1
      rw [byt_at h1] at hx
      obtain ⟨j, hj⟩ : ∃ j, j = i + 1 := ⟨_, rfl⟩
      have e1 := wone hj (by omega)
      rw [D_cons h1, ← hj, List.all_cons, Bool.and_eq_true] at hd
      obtain ⟨d1, d2⟩ := digit_of hd.1
      have hw8 : IntKind.u8.wrap ((s[i].toNat : Int) - 48) = (s[i].toNat : Int) - 48 := wrap8_id (by omega) (by omega)
      have hw64 : IntKind.u64.wrap ((s[i].toNat : Int) - 48) = (s[i].toNat : Int) - 48 := wrapU_id (by omega) (by omega)
      obtain ⟨w, hw⟩ : ∃ w : Int, w = IntKind.u64.wrap (IntKind.u64.wrap (10 * z) + ((s[i].toNat : Int) - 48)) := ⟨_, rfl⟩
      have hst : Lx.stepD (z, false) s[i] = (w, decide (4611686018427387904 < w)) := by
        unfold Lx.stepD
        simp only [Bool.false_eq_true, if_false, ← hw]
      rw [D_cons h1, ← hj, List.foldl_cons, hst]
      by_cases h2 : 4611686018427387904 < w
      · rw [step_true _ _ (by simp [h2])]
        exact Evl.of (by rw [h117b2b, g117b2b]; simp [h1', hx, hw8, hw64, ← hw, h2])
      · have g := ih j w (by omega) hd.2
        rw [show decide (4611686018427387904 < w) = false from decide_eq_false h2]
        exact Evl.of (by rw [h117b2b, g117b2b]; simp [h1', hx, hw8, hw64, ← hw, h2, e1, g])
    · rw [D_nil (by omega)]
      exact Evl.of (by rw [h117b2b, g117b2b]; simp [show ¬ (i : Int) < (s.size : Int) by omega])
theorem parse_x (s : ByteArray) (hs : s.size ≤ 1000000) (h0 : 0 < s.size) (hz : s.size = 1 ∨ ¬ s[0].toNat = 48) (hd : s.data.toList.all Lx.digitB = true) :
    ev (q117 (sv s)) = some (0, match Lx.parseD s.data.toList with | none => [iv 0, iv 3] | some n => [iv n, iv 0]) := by
  have h1 : 0 < (s.size : Int) := by omega
  have h1a : ¬ (0 : Int) = (s.size : Int) := by omega
  have hx : ∀ (k : AV → Res), indK PG .fail 9 (.pv (sv s)) (.pv (iv 0)) k = k (.pv (cv (byt s 0))) := fun k => indS (d := Res.fail) (k := k) (s := s) (i := 0) h0
  rw [byt_at h0] at hx
  have hd0 : (D s 0).all Lx.digitB = true := hd
  have hd1 := hd0
  rw [D_cons h0, List.all_cons, Bool.and_eq_true] at hd1
  obtain ⟨d1, d2⟩ := digit_of hd1.1
  have g1 : ev (q117b0b (iv 0) (sv s)) = _ := parse_0x s hs _ 0 (Nat.le_refl _) hd0
  have g2 : ev (q117b2b (iv 0) (sv s) (wv 0)) = _ := parse_2x s hs _ 0 0 (Nat.le_refl _) hd0
  rw [show (D s 0).foldl Lx.stepD (0, false) = Lx.foldD s.data.toList from rfl] at g2
  have hn45 : ¬ (s[0].toNat : Int) = 45 := by omega
  have hzz : (s[0].toNat : Int) = 48 → ¬ 1 < (s.size : Int) := by
    intro e
    rcases hz with hz | hz
    · omega
    · omega
  have key : body PG EE TT ev (q117 (sv s)) = .ok (0, match Lx.parseD s.data.toList with | none => [iv 0, iv 3] | some n => [iv n, iv 0]) := by
    unfold Lx.parseD
    cases hb : (Lx.foldD s.data.toList).2 with
    | true =>
      rw [hb] at g2
      simp only [if_true] at g2
      simp only [true_or, if_true]
      rw [h117, g117]
      by_cases h48 : (s[0].toNat : Int) = 48
      · rw [h48] at hx
        have h12 : ¬ 1 < s.size := by have := hzz h48; omega
        simp [h1, h0, h1a, hx, hzz h48, h12, g1, g2]
      · simp [h1, h0, h1a, hx, hn45, h48, g1, g2]
    | false =>
      rw [hb] at g2
      simp only [Bool.false_eq_true, if_false] at g2
      have hbd := Lx.foldD_bd s.data.toList
      have hsm := Lx.foldD_small s.data.toList hb
      generalize (Lx.foldD s.data.toList).1 = n at *
      by_cases hh : n = 4611686018427387904
      · simp only [Bool.false_eq_true, false_or, hh, if_true]
        rw [hh] at g2
        rw [h117, g117]
        by_cases h48 : (s[0].toNat : Int) = 48
        · rw [h48] at hx
          have h12 : ¬ 1 < s.size := by have := hzz h48; omega
          simp [h1, h0, h1a, hx, hzz h48, h12, g1, g2]
        · simp [h1, h0, h1a, hx, hn45, h48, g1, g2]
      · simp only [Bool.false_eq_true, false_or, hh, if_false]
        have hsg := signed_x (n := n) hbd.1 (by omega)
        rw [h117, g117]
        by_cases h48 : (s[0].toNat : Int) = 48
        · rw [h48] at hx
          have h12 : ¬ 1 < s.size := by have := hzz h48; omega
          simp [h1, h0, h1a, hx, hzz h48, h12, g1, g2, hh, hsg]
        · simp [h1, h0, h1a, hx, hn45, h48, g1, g2, hh, hsg]
  exact Evl.of key
/-! Zeros ahead. -/
def nt : List UInt8 → List UInt8
  | [] => []
  | [c] => [c]
  | c :: d :: r => if c.toNat = 48 then nt (d :: r) else c :: d :: r
theorem nt_num : ∀ (l : List UInt8), l ≠ [] → Lx.numText l = nt l
  | [], h => absurd rfl h
  | [c], _ => by
    unfold Lx.numText nt Lib.trimLeftB
    by_cases h : c = 48
    · subst h; rfl
    · have h2 : (c == (48 : UInt8)) = false := by simpa using h
      simp [h2]
  | c :: d :: r, _ => by
    have ih := nt_num (d :: r) (by simp)
    rw [nt]
    by_cases h : c.toNat = 48
    · have hc : c = 48 := UInt8.toNat_inj.1 (by rw [h]; rfl)
      rw [if_pos h, ← ih, hc]
      unfold Lx.numText
      rfl
    · have hc : ¬ c = 48 := fun e => h (by rw [e]; rfl)
      rw [if_neg h]
      unfold Lx.numText Lib.trimLeftB
      have h2 : (c == (48 : UInt8)) = false := by simpa using hc
      simp [h2]
theorem zero_x (b : ByteArray) (hb : b.size ≤ 1000000) (y : Nat) (hy : y ≤ b.size) (a : Int) : ∀ (m i : Nat), y - i ≤ m → i < y →
    ∃ z : Nat, ev (q85b0a (iv i) (iv y) (sv b) (iv a)) = some (0, [iv 0, sv eB, iv 0, iv a, iv 0, sv eB, iv 0, iv 0, sv b, iv z, iv y]) ∧ i ≤ z ∧ z < y ∧ (D b z).take (y - z) = nt ((D b i).take (y - i)) := by
  intro m
  induction m with
  | zero => intro i hi h; omega
  | succ m ih =>
    intro i hi h
    have h1 : i < b.size := by omega
    have hx := fun (k : AV → Res) => indS (d := Res.fail) (k := k) h1
    rw [byt_at h1] at hx
    obtain ⟨j, hj⟩ : ∃ j, j = i + 1 := ⟨_, rfl⟩
    have e1 := wone hj (by omega)
    have ey : IntKind.i64.wrap ((y : Int) - 1) = (y : Int) - 1 := wrap_id (by omega)
    by_cases hl : j < y
    · have hl' : (i : Int) < (y : Int) - 1 := by omega
      have h2 : j < b.size := by omega
      have hc : (D b i).take (y - i) = b[i] :: b[j] :: (D b (j + 1)).take (y - i - 2) := by
        rw [D_cons h1, ← hj, D_cons h2, show y - i = (y - i - 2) + 1 + 1 by omega]
        rw [List.take_succ_cons, List.take_succ_cons]
        simp
      have hc2 : (D b j).take (y - j) = b[j] :: (D b (j + 1)).take (y - i - 2) := by
        rw [D_cons h2, show y - j = (y - i - 2) + 1 by omega, List.take_succ_cons]
      by_cases h48 : b[i].toNat = 48
      · have h48' : (b[i].toNat : Int) = 48 := by omega
        rw [h48'] at hx
        obtain ⟨z, g, g1, g2, g3⟩ := ih j (by omega) hl
        refine ⟨z, Evl.of ?_, by omega, g2, ?_⟩
        · rw [h85b0a, g85b0a]
          simp [ey, hl', hx, e1, g]
        · rw [g3, hc, nt, if_pos h48, hc2]
      · have h48' : ¬ (b[i].toNat : Int) = 48 := by omega
        refine ⟨i, Evl.of ?_, Nat.le_refl _, h, ?_⟩
        · rw [h85b0a, g85b0a]
          simp [ey, hl', hx, h48']
        · rw [hc, nt, if_neg h48]
    · have hl' : ¬ (i : Int) < (y : Int) - 1 := by omega
      refine ⟨i, Evl.of ?_, Nat.le_refl _, h, ?_⟩
      · rw [h85b0a, g85b0a]
        simp [ey, hl']
      · rw [show y - i = 0 + 1 by omega, D_cons h1, List.take_succ_cons]
        rfl
end Go.Proofs.YtijcobeebaceoaaGreatDoor
namespace Go.Proofs.YtijcobeebaceoaaGreatDoor
open Go.RowKit
set_option linter.unusedSimpArgs false
set_option linter.unusedVariables false
set_option linter.unusedSectionVars false

theorem ucls_all : (List.range 256).all (fun n => !(Lx.lowB (UInt8.ofNat n) && Lx.upB (UInt8.ofNat n)) && !(Lx.lowB (UInt8.ofNat n) && Lx.digitB (UInt8.ofNat n)) && !(Lx.lowB (UInt8.ofNat n) && Lx.symB (UInt8.ofNat n)) && !(Lx.upB (UInt8.ofNat n) && Lx.digitB (UInt8.ofNat n)) && !(Lx.upB (UInt8.ofNat n) && Lx.symB (UInt8.ofNat n)) && !(Lx.digitB (UInt8.ofNat n) && Lx.symB (UInt8.ofNat n)) && ((UInt8.ofNat n).toNat != 34 || !(Lx.lowB (UInt8.ofNat n) || Lx.upB (UInt8.ofNat n) || Lx.digitB (UInt8.ofNat n) || Lx.symB (UInt8.ofNat n)))) = true := by kernel_rfl
theorem ucls (c : UInt8) : (!(Lx.lowB c && Lx.upB c) && !(Lx.lowB c && Lx.digitB c) && !(Lx.lowB c && Lx.symB c) && !(Lx.upB c && Lx.digitB c) && !(Lx.upB c && Lx.symB c) && !(Lx.digitB c && Lx.symB c) && (c.toNat != 34 || !(Lx.lowB c || Lx.upB c || Lx.digitB c || Lx.symB c))) = true := by
  have h := List.all_eq_true.1 ucls_all c.toNat (List.mem_range.2 c.toNat_lt)
  have e : UInt8.ofNat c.toNat = c := by simp
  rw [e] at h
  exact h
theorem keyB_of (x : List UInt8) : Lx.keyB (Lx.textOf x) = Lx.keyList.contains x := by unfold Lx.keyB; rw [Lx.textOf_toList]
theorem markB_of (x : List UInt8) : Lx.markB (Lx.textOf x) = Lx.markList.contains x := by unfold Lx.markB; rw [Lx.textOf_toList]
theorem keys_low : Lx.keyList.all (fun k => match k with | c :: d :: _ => Lx.lowB c && !(Lx.markList.contains k) | _ => false) = true := by kernel_rfl
theorem key_head {x : List UInt8} (h : Lx.keyList.contains x = true) : ∃ c d r, x = c :: d :: r ∧ Lx.lowB c = true ∧ Lx.markList.contains x = false := by
  have hm : x ∈ Lx.keyList := by simpa using h
  have := List.all_eq_true.1 keys_low x hm
  match x, this with
  | c :: d :: r, h2 =>
    simp only [Bool.and_eq_true, Bool.not_eq_true'] at h2
    exact ⟨c, d, r, rfl, h2.1, h2.2⟩
theorem marks_low : Lx.markList.all (fun k => match k with | c :: _ => !(Lx.lowB c || Lx.upB c) || k == [95] | _ => false) = true := by kernel_rfl
theorem mark_word {c : UInt8} {r : List UInt8} (hc : Lx.lowB c = true ∨ Lx.upB c = true) : Lx.markList.contains (c :: r) = (c :: r == [95]) := by
  cases hb : Lx.markList.contains (c :: r) with
  | true =>
    have hm : (c :: r) ∈ Lx.markList := by simpa using hb
    have := List.all_eq_true.1 marks_low _ hm
    simp only [Bool.or_eq_true, Bool.not_eq_true', Bool.or_eq_false_iff] at this
    rcases this with h | h
    · rcases hc with hc | hc
      · rw [hc] at h; exact absurd h.1 (by simp)
      · rw [hc] at h; exact absurd h.2 (by simp)
    · exact h.symm
  | false =>
    cases he : (c :: r == [95]) with
    | false => rfl
    | true =>
      have : c :: r = [95] := by simpa using he
      rw [this] at hb
      exact absurd hb (by decide)
theorem ext_text (p : UInt8 → Bool) (b : ByteArray) (i : Nat) : b.extract i (Lx.adv p b i) = Lx.textOf ((D b i).takeWhile p) := Lx.text_eq (Lx.adv_text p b i)
theorem text_size (x : List UInt8) : ((Lx.textOf x).size : Int) = (x.length : Int) := by rw [Lx.textOf_size]
/-- What is answered of one token. -/
def OneR (b : ByteArray) (i : Nat) (o : Except Int (Int × List UInt8 × Int × List UInt8)) (r : Option Rs) : Prop := match o with
  | .error e => ∃ (k : Int) (t : ByteArray) (n : Int), r = some (0, [iv k, sv t, iv n, iv i, iv 0, iv e])
  | .ok (kind, x, n, l) => r = some (0, [iv kind, sv (Lx.textOf x), iv n, iv i, iv (b.size - l.length : Nat), iv 0])
theorem one_word (b : ByteArray) (hb : b.size ≤ 1000000) (i : Nat) (hi : i < b.size) (hw : Lx.lowB b[i] = true ∨ Lx.upB b[i] = true) :
    OneR b i (Lx.putL (Lx.kindL ((D b i).takeWhile Lx.insideB)) ((D b i).takeWhile Lx.insideB) 0 ((D b i).dropWhile Lx.insideB)) (ev (q85 (sv b) (iv i))) := by
  have hx := fun (k : AV → Res) => indS (d := Res.fail) (k := k) hi
  rw [byt_at hi] at hx
  have hcls := ucls b[i]
  have hin : Lx.insideB b[i] = true := by
    unfold Lx.insideB
    rcases hw with h | h <;> simp [h]
  have hdg : Lx.digitB b[i] = false := by
    cases h : Lx.digitB b[i] with
    | false => rfl
    | true => rcases hw with h2 | h2 <;> simp [h, h2] at hcls
  have hsy : Lx.symB b[i] = false := by
    cases h : Lx.symB b[i] with
    | false => rfl
    | true => rcases hw with h2 | h2 <;> simp [h, h2] at hcls
  have h34 : ¬ (b[i].toNat : Int) = 34 := by
    intro h
    have h' : b[i].toNat = 34 := by omega
    rcases hw with h2 | h2 <;> simp [h', h2] at hcls
  obtain ⟨r, hr⟩ : ∃ r, (D b i).takeWhile Lx.insideB = b[i] :: r := ⟨_, by rw [D_cons hi, List.takeWhile_cons_of_pos hin]⟩
  have hle := Lx.adv_le Lx.insideB b i (by omega)
  have hge := Lx.adv_ge Lx.insideB b i
  have hsl := fun (k : AV → Res) => slcS (d := Res.fail) (k := k) (s := b) hge hle
  rw [ext_text, hr] at hsl
  have hnx : b.size - ((D b i).dropWhile Lx.insideB).length = Lx.adv Lx.insideB b i := Lx.adv_pos Lx.insideB b i (by omega)
  have he := end_x1 b hb i
  obtain ⟨y, hy⟩ : ∃ y, y = Lx.adv Lx.insideB b i := ⟨_, rfl⟩
  rw [← hy] at he hsl hnx
  have hsz := text_size (b[i] :: r)
  have hK := Key_x (Lx.textOf (b[i] :: r))
  have hM := Mark_x (Lx.textOf (b[i] :: r))
  rw [keyB_of] at hK
  rw [markB_of, mark_word hw] at hM
  have hS := small_x b[i]
  have hG := great_x b[i]
  have hD := digit_x b[i]
  have hY := sign_x b[i]
  rw [hdg] at hD
  rw [hsy] at hY
  rw [hr]
  unfold Lx.putL OneR
  have hkm : Lx.keyList.contains (b[i] :: r) = true → (b[i] :: r == [95]) = false := by
    intro h
    obtain ⟨_, _, _, h1, _, _⟩ := key_head h
    rw [h1]
    simp
  have hkind : Lx.kindL (b[i] :: r) = if Lx.keyList.contains (b[i] :: r) = true then 6 else if (b[i] :: r == [95]) = true then 7 else if Lx.upB b[i] = true then 2 else 1 := rfl
  have hkk : Lx.kindL (b[i] :: r) ≠ 3 ∧ Lx.kindL (b[i] :: r) ≠ 4 := by
    rw [hkind]
    cases Lx.keyList.contains (b[i] :: r) <;> cases (b[i] :: r == [95]) <;> cases Lx.upB b[i] <;> simp
  by_cases hlen : 40 < (b[i] :: r).length
  · rw [if_pos ⟨hkk.1, hkk.2, hlen⟩]
    simp only
    refine ⟨0, Lx.textOf (b[i] :: r), 0, Evl.of ?_⟩
    have hl2 : 40 < ((b[i] :: r).length : Int) := by omega
    rw [h85, g85]
    cases hs : Lx.lowB b[i] <;> cases hg : Lx.upB b[i] <;> (rw [hs] at hS; rw [hg] at hG; first | (rw [hs, hg] at hw; simp at hw; done) | simp [-Int.natCast_add, -List.length_cons, hx, h34, hD, hS, hG, hY, he, hsl, hsz, hl2])
  · have hl2 : ¬ 40 < ((b[i] :: r).length : Int) := by omega
    rw [if_neg (fun h => hlen h.2.2)]
    simp only
    rw [hnx]
    refine Evl.of ?_
    rw [h85, g85]
    rw [hkind]
    generalize b[i] :: r = X at *
    cases hs : Lx.lowB b[i] <;> cases hg : Lx.upB b[i] <;> (rw [hs] at hS; rw [hg] at hG; first | (rw [hs, hg] at hw; simp at hw; done) | (rw [hs, hg] at hcls; simp at hcls; done) | (cases hk : Lx.keyList.contains X <;> cases hm : (X == [95]) <;> (rw [hk] at hK; rw [hm] at hM; first | exact absurd (hkm hk) (by rw [hm]; decide) | simp [-Int.natCast_add, -List.length_cons, -List.contains_eq_mem, -beq_iff_eq, hx, h34, hD, hS, hG, hY, he, hsl, hsz, hl2, hK, hM, hg])))
theorem one_text (b : ByteArray) (hb : b.size ≤ 1000000) (i : Nat) (hi : i < b.size) (hc : b[i].toNat = 34) :
    OneR b i (match Lx.textL (D b (i + 1)) with | none => .error 103 | some (x, r') => Lx.putL 4 x 0 r') (ev (q85 (sv b) (iv i))) := by
  have hx := fun (k : AV → Res) => indS (d := Res.fail) (k := k) hi
  rw [byt_at hi, show ((b[i].toNat : Nat) : Int) = 34 by omega] at hx
  have ht := text_x b hb i hi
  cases hT : Lx.textL (D b (i + 1)) with
  | none =>
    rw [hT] at ht
    exact ⟨0, eB, 0, Evl.of (by rw [h85, g85]; simp [hx, ht])⟩
  | some p =>
    obtain ⟨x, r⟩ := p
    rw [hT] at ht
    unfold OneR Lx.putL
    simp only [ne_eq, not_true_eq_false, false_and, and_false, if_false]
    exact Evl.of (by rw [h85, g85]; simp [-Int.natCast_add, hx, ht])
theorem one_sym (b : ByteArray) (hb : b.size ≤ 1000000) (i : Nat) (hi : i < b.size) (hc : Lx.symB b[i] = true) :
    OneR b i (Lx.putL (if Lx.markList.contains ((D b i).takeWhile Lx.symB) = true then 7 else 5) ((D b i).takeWhile Lx.symB) 0 ((D b i).dropWhile Lx.symB)) (ev (q85 (sv b) (iv i))) := by
  have hx := fun (k : AV → Res) => indS (d := Res.fail) (k := k) hi
  rw [byt_at hi] at hx
  have hcls := ucls b[i]
  rw [hc] at hcls
  have hdg : Lx.digitB b[i] = false := by cases h : Lx.digitB b[i] with | false => rfl | true => simp [h] at hcls
  have hlo : Lx.lowB b[i] = false := by cases h : Lx.lowB b[i] with | false => rfl | true => simp [h] at hcls
  have hup : Lx.upB b[i] = false := by cases h : Lx.upB b[i] with | false => rfl | true => simp [h] at hcls
  have h34 : ¬ (b[i].toNat : Int) = 34 := by
    intro h
    have h' : b[i].toNat = 34 := by omega
    simp [h'] at hcls
  obtain ⟨r, hr⟩ : ∃ r, (D b i).takeWhile Lx.symB = b[i] :: r := ⟨_, by rw [D_cons hi, List.takeWhile_cons_of_pos hc]⟩
  have hle := Lx.adv_le Lx.symB b i (by omega)
  have hge := Lx.adv_ge Lx.symB b i
  have hsl := fun (k : AV → Res) => slcS (d := Res.fail) (k := k) (s := b) hge hle
  rw [ext_text, hr] at hsl
  have hnx : b.size - ((D b i).dropWhile Lx.symB).length = Lx.adv Lx.symB b i := Lx.adv_pos Lx.symB b i (by omega)
  have he := end_x3 b hb i
  obtain ⟨y, hy⟩ : ∃ y, y = Lx.adv Lx.symB b i := ⟨_, rfl⟩
  rw [← hy] at he hsl hnx
  have hsz := text_size (b[i] :: r)
  have hK := Key_x (Lx.textOf (b[i] :: r))
  have hM := Mark_x (Lx.textOf (b[i] :: r))
  rw [keyB_of] at hK
  rw [markB_of] at hM
  have hkey : Lx.keyList.contains (b[i] :: r) = false := by
    cases h : Lx.keyList.contains (b[i] :: r) with
    | false => rfl
    | true =>
      obtain ⟨c, d, r2, h1, h2, _⟩ := key_head h
      rw [List.cons.injEq] at h1
      rw [← h1.1, hlo] at h2
      cases h2
  rw [hkey] at hK
  have hS := small_x b[i]
  have hG := great_x b[i]
  have hD := digit_x b[i]
  have hY := sign_x b[i]
  rw [hlo] at hS
  rw [hup] at hG
  rw [hdg] at hD
  rw [hc] at hY
  rw [hr]
  unfold Lx.putL OneR
  generalize b[i] :: r = X at *
  by_cases hlen : 40 < X.length
  · rw [if_pos ⟨by split <;> decide, by split <;> decide, hlen⟩]
    simp only
    refine ⟨0, Lx.textOf X, 0, Evl.of ?_⟩
    have hl2 : 40 < (X.length : Int) := by omega
    rw [h85, g85]
    simp [-Int.natCast_add, hx, h34, hD, hS, hG, hY, he, hsl, hsz, hl2]
  · have hl2 : ¬ 40 < (X.length : Int) := by omega
    rw [if_neg (fun h => hlen h.2.2)]
    simp only
    rw [hnx]
    refine Evl.of ?_
    rw [h85, g85]
    cases hm : Lx.markList.contains X <;> (rw [hm] at hM; simp [-Int.natCast_add, -List.contains_eq_mem, hx, h34, hD, hS, hG, hY, he, hsl, hsz, hl2, hK, hM])
theorem one_mark (b : ByteArray) (hb : b.size ≤ 1000000) (i : Nat) (hi : i < b.size) (h1 : Lx.lowB b[i] = false) (h2 : Lx.upB b[i] = false) (h3 : Lx.digitB b[i] = false) (h4 : ¬ b[i].toNat = 34) (h5 : Lx.symB b[i] = false) :
    OneR b i (if Lx.markList.contains [b[i]] = true then Lx.putL 7 [b[i]] 0 (D b (i + 1)) else .error 101) (ev (q85 (sv b) (iv i))) := by
  have hx := fun (k : AV → Res) => indS (d := Res.fail) (k := k) hi
  rw [byt_at hi] at hx
  have h34 : ¬ (b[i].toNat : Int) = 34 := by omega
  obtain ⟨j, hj⟩ : ∃ j, j = i + 1 := ⟨_, rfl⟩
  have e1 := wone hj (by omega)
  have hsl := fun (k : AV → Res) => slcS (d := Res.fail) (k := k) (s := b) (l := i) (m := j) (by omega) (by omega)
  have hone : b.extract i j = Lx.textOf [b[i]] := Lx.text_eq (by rw [hj, Lib.extract_data, Nat.add_sub_cancel_left, show b.data.toList.drop i = b[i] :: b.data.toList.drop (i + 1) from D_cons hi]; rfl)
  rw [hone] at hsl
  have hnx : b.size - (D b (i + 1)).length = j := by rw [D_len]; omega
  have hsz : ((Lx.textOf [b[i]]).size : Int) = 1 := text_size [b[i]]
  have hK := Key_x (Lx.textOf [b[i]])
  have hM := Mark_x (Lx.textOf [b[i]])
  rw [keyB_of] at hK
  rw [markB_of] at hM
  have hkey : Lx.keyList.contains [b[i]] = false := by
    cases h : Lx.keyList.contains [b[i]] with
    | false => rfl
    | true =>
      obtain ⟨c, d, r2, h1, h2, _⟩ := key_head h
      simp at h1
  rw [hkey] at hK
  have hS := small_x b[i]
  have hG := great_x b[i]
  have hD := digit_x b[i]
  have hY := sign_x b[i]
  rw [h1] at hS
  rw [h2] at hG
  rw [h3] at hD
  rw [h5] at hY
  cases hm : Lx.markList.contains [b[i]] with
  | true =>
    rw [hm] at hM
    simp only [if_true]
    unfold Lx.putL OneR
    rw [if_neg (by simp)]
    simp only
    rw [hnx]
    exact Evl.of (by rw [h85, g85]; simp [-Int.natCast_add, hx, h34, hD, hS, hG, hY, e1, hsl, hsz, hK, hM])
  | false =>
    rw [hm] at hM
    simp only [Bool.false_eq_true, if_false]
    exact ⟨0, eB, 0, Evl.of (by rw [h85, g85]; simp [-Int.natCast_add, hx, h34, hD, hS, hG, hY, e1, hsl, hsz, hK, hM])⟩
theorem take_ds (b : ByteArray) (p : UInt8 → Bool) (i : Nat) : (D b i).take (Lx.adv p b i - i) = (D b i).takeWhile p := by
  have h := Lx.adv_text p b i
  rw [Lib.extract_data] at h
  exact h
theorem nt_ok : ∀ (l : List UInt8), l.all Lx.digitB = true → (nt l).all Lx.digitB = true ∧ (l ≠ [] → nt l ≠ []) ∧ ((nt l).length = 1 ∨ ∀ c r, nt l = c :: r → ¬ c.toNat = 48)
  | [], _ => ⟨rfl, fun h => absurd rfl h, .inr fun c r h => by simp [nt] at h⟩
  | [c], h => ⟨h, fun _ => by simp [nt], .inl rfl⟩
  | c :: d :: r, h => by
    rw [nt]
    by_cases h48 : c.toNat = 48
    · rw [if_pos h48]
      rw [List.all_cons, Bool.and_eq_true] at h
      obtain ⟨i1, i2, i3⟩ := nt_ok (d :: r) h.2
      exact ⟨i1, fun _ => i2 (by simp), i3⟩
    · rw [if_neg h48]
      exact ⟨h, fun _ => by simp, .inr fun c' r' e => by cases e; exact h48⟩
theorem one_num (b : ByteArray) (hb : b.size ≤ 1000000) (i : Nat) (hi : i < b.size) (hc : Lx.digitB b[i] = true) :
    OneR b i (match Lx.parseD (Lx.numText ((D b i).takeWhile Lx.digitB)) with | none => .error 102 | some n => Lx.putL 3 (Lx.numText ((D b i).takeWhile Lx.digitB)) n ((D b i).dropWhile Lx.digitB)) (ev (q85 (sv b) (iv i))) := by
  have hx := fun (k : AV → Res) => indS (d := Res.fail) (k := k) hi
  rw [byt_at hi] at hx
  have hcls := ucls b[i]
  rw [hc] at hcls
  have h34 : ¬ (b[i].toNat : Int) = 34 := by
    intro h
    have h' : b[i].toNat = 34 := by omega
    simp [h'] at hcls
  have hD := digit_x b[i]
  rw [hc] at hD
  obtain ⟨r, hr⟩ : ∃ r, (D b i).takeWhile Lx.digitB = b[i] :: r := ⟨_, by rw [D_cons hi, List.takeWhile_cons_of_pos hc]⟩
  have hle := Lx.adv_le Lx.digitB b i (by omega)
  have hlt : i < Lx.adv Lx.digitB b i := by
    have := adv_yes (p := Lx.digitB) hi hc
    have := Lx.adv_ge Lx.digitB b (i + 1)
    omega
  have hnx : b.size - ((D b i).dropWhile Lx.digitB).length = Lx.adv Lx.digitB b i := Lx.adv_pos Lx.digitB b i (by omega)
  have he := end_x2 b hb i
  have htk := take_ds b Lx.digitB i
  obtain ⟨y, hy⟩ : ∃ y, y = Lx.adv Lx.digitB b i := ⟨_, rfl⟩
  rw [← hy] at he hle hlt hnx htk
  obtain ⟨z, g, g1, g2, g3⟩ := zero_x b hb y hle (i : Int) _ i (Nat.le_refl _) hlt
  have hne : (D b i).takeWhile Lx.digitB ≠ [] := by rw [hr]; simp
  rw [htk, ← nt_num _ hne] at g3
  have hall : ((D b i).takeWhile Lx.digitB).all Lx.digitB = true := List.all_takeWhile
  obtain ⟨n1, n2, n3⟩ := nt_ok _ hall
  rw [← nt_num _ hne] at n1 n2 n3
  have hsl := fun (k : AV → Res) => slcS (d := Res.fail) (k := k) (s := b) (l := z) (m := y) (by omega) hle
  have htx : b.extract z y = Lx.textOf (Lx.numText ((D b i).takeWhile Lx.digitB)) := Lx.text_eq (by rw [Lib.extract_data]; exact g3)
  rw [htx] at hsl
  have hn2 := n2 hne
  have hlen : (Lx.numText ((D b i).takeWhile Lx.digitB)).length ≤ b.size := by
    rw [← g3, List.length_take]
    have := D_len b z
    omega
  generalize Lx.numText ((D b i).takeWhile Lx.digitB) = X at *
  have hXs : (Lx.textOf X).size = X.length := Lx.textOf_size X
  have hXd : (Lx.textOf X).data.toList = X := Lx.textOf_data X
  have hp := parse_x (Lx.textOf X) (by omega) (by rw [hXs]; exact List.length_pos_iff.2 hn2) (by
    rcases n3 with n3 | n3
    · exact .inl (by omega)
    · right
      match X, n3 with
      | c :: r, n3 => exact n3 c r rfl
      | [], _ => exact absurd rfl hn2) (by rw [hXd]; exact n1)
  rw [hXd] at hp
  cases hq : Lx.parseD X with
  | none =>
    rw [hq] at hp
    exact ⟨0, eB, 0, Evl.of (by rw [h85, g85]; simp [-Int.natCast_add, hx, h34, hD, he, g, hsl, hp])⟩
  | some n =>
    rw [hq] at hp
    unfold OneR Lx.putL
    simp only [ne_eq, not_true_eq_false, false_and, and_false, if_false]
    rw [hnx]
    exact Evl.of (by rw [h85, g85]; simp [-Int.natCast_add, hx, h34, hD, he, g, hsl, hp])
theorem one_x (b : ByteArray) (hb : b.size ≤ 1000000) (i : Nat) (hi : i < b.size) : OneR b i (Lx.oneL (D b i)) (ev (q85 (sv b) (iv i))) := by
  have hd := D_cons hi
  rw [hd]
  unfold Lx.oneL
  simp only
  rw [← hd]
  by_cases h1 : Lx.lowB b[i] = true ∨ Lx.upB b[i] = true
  · rw [if_pos h1]; exact one_word b hb i hi h1
  · rw [if_neg h1]
    by_cases h2 : Lx.digitB b[i] = true
    · rw [if_pos h2]; exact one_num b hb i hi h2
    · rw [if_neg h2]
      by_cases h3 : b[i].toNat = 34
      · rw [if_pos h3]; exact one_text b hb i hi h3
      · rw [if_neg h3]
        by_cases h4 : Lx.symB b[i] = true
        · rw [if_pos h4]; exact one_sym b hb i hi h4
        · rw [if_neg h4]
          exact one_mark b hb i hi (by cases h : Lx.lowB b[i] with | false => rfl | true => exact absurd (.inl h) h1) (by cases h : Lx.upB b[i] with | false => rfl | true => exact absurd (.inr h) h1) (by simpa using h2) h3 (by simpa using h4)
end Go.Proofs.YtijcobeebaceoaaGreatDoor
namespace Go.Proofs.YtijcobeebaceoaaGreatDoor
open Go.RowKit
set_option linter.unusedSimpArgs false
set_option linter.unusedVariables false
set_option linter.unusedSectionVars false

theorem byteN_byt (b : ByteArray) (i k : Nat) : (Lx.byteN (D b i) k : Int) = byt b (i + k) := by
  unfold Lx.byteN byt
  rw [List.getD_eq_getElem?_getD, List.getD_eq_getElem?_getD, List.getElem?_drop]
theorem byteN_lt (l : List UInt8) (k : Nat) : Lx.byteN l k < 256 := UInt8.toNat_lt _
theorem prefix_iff : ∀ (l : List UInt8), Lib.hasPrefix l [239, 191, 189] = true ↔ (2 < l.length ∧ Lx.byteN l 0 = 239 ∧ Lx.byteN l 1 = 191 ∧ Lx.byteN l 2 = 189)
  | [] => by simp [Lib.hasPrefix, List.isPrefixOf]
  | [a] => by simp [Lib.hasPrefix, List.isPrefixOf]
  | [a, c] => by simp [Lib.hasPrefix, List.isPrefixOf]
  | a :: c :: d :: r => by
    have h : ∀ (x y : UInt8), (x == y) = decide (y.toNat = x.toNat) := by
      intro x y
      rw [Bool.eq_iff_iff, beq_iff_eq, decide_eq_true_eq]
      exact ⟨fun e => by rw [e], fun e => UInt8.toNat_inj.1 e.symm⟩
    simp [Lib.hasPrefix, List.isPrefixOf, Lx.byteN, h]
/-- How many bytes the character has; 0: none. -/
def utfN (l : List UInt8) : Nat := if Lx.badL l = true then 0 else (Lx.decL l).2
theorem utf_ae (b : ByteArray) (i : Nat) (z : Int) : ev (q112b0a (iv 4) (sv b) (iv i) (iv z)) = some (1, [iv z, iv 65536, iv 4]) := Evl.of (by rw [h112b0a, g112b0a]; simp)
theorem utf_as (b : ByteArray) (i : Nat) (hb : b.size ≤ 1000000) (k : Nat) (hk : k < 4) (hi : i + k < b.size) (z : Int) (h0 : 0 ≤ z) (h1 : z ≤ 10000000) (k' : Int) (hk' : k' = (k : Int) + 1) (x : Int) (hx' : x = byt b (i + k))
    {r : Rs} (hbad : x < 128 ∨ 191 < x → r = (0, [iv 0])) (hgo : ¬ (x < 128 ∨ 191 < x) → ev (q112b0a (iv k') (sv b) (iv i) (iv (64 * z + x - 128))) = some r) : ev (q112b0a (iv k) (sv b) (iv i) (iv z)) = some r := by
  obtain ⟨j, hj⟩ : ∃ j, j = i + k := ⟨_, rfl⟩
  have h1' : (k : Int) < 4 := by omega
  have e1 := wtwo hj (by omega)
  have e2 : IntKind.i64.wrap ((k : Int) + 1) = k' := by rw [wrap_id (by omega), hk']
  have hr := byt_range b (i + k)
  rw [← hj] at hx' hr
  have hx := fun (k : AV → Res) => indS (d := Res.fail) (k := k) (s := b) (i := j) (by omega)
  rw [← hx'] at hx hr
  have w0 : IntKind.i64.wrap x = x := wrap_id (by omega)
  have w1 : IntKind.i64.wrap (64 * z) = 64 * z := wrap_id (by omega)
  have w2 : IntKind.i64.wrap (64 * z + x) = 64 * z + x := wrap_id (by omega)
  have w3 : IntKind.i64.wrap (64 * z + x - 128) = 64 * z + x - 128 := wrap_id (by omega)
  by_cases h2 : x < 128
  · rw [hbad (.inl h2)]
    exact Evl.of (by rw [h112b0a, g112b0a]; simp [h1', e1, hx, w0, h2])
  · by_cases h3 : 191 < x
    · rw [hbad (.inr h3)]
      exact Evl.of (by rw [h112b0a, g112b0a]; simp [h1', e1, hx, w0, h2, h3])
    · have hg := hgo (by omega)
      exact Evl.of (by rw [h112b0a, g112b0a]; simp [h1', e1, e2, hx, w0, w1, w2, w3, h2, h3, hg])
theorem utf_be (b : ByteArray) (i : Nat) (z : Int) : ev (q112b0b (iv 3) (sv b) (iv i) (iv z)) = some (1, [iv z, iv 2048, iv 3]) := Evl.of (by rw [h112b0b, g112b0b]; simp)
theorem utf_bs (b : ByteArray) (i : Nat) (hb : b.size ≤ 1000000) (k : Nat) (hk : k < 3) (hi : i + k < b.size) (z : Int) (h0 : 0 ≤ z) (h1 : z ≤ 10000000) (k' : Int) (hk' : k' = (k : Int) + 1) (x : Int) (hx' : x = byt b (i + k))
    {r : Rs} (hbad : x < 128 ∨ 191 < x → r = (0, [iv 0])) (hgo : ¬ (x < 128 ∨ 191 < x) → ev (q112b0b (iv k') (sv b) (iv i) (iv (64 * z + x - 128))) = some r) : ev (q112b0b (iv k) (sv b) (iv i) (iv z)) = some r := by
  obtain ⟨j, hj⟩ : ∃ j, j = i + k := ⟨_, rfl⟩
  have h1' : (k : Int) < 3 := by omega
  have e1 := wtwo hj (by omega)
  have e2 : IntKind.i64.wrap ((k : Int) + 1) = k' := by rw [wrap_id (by omega), hk']
  have hr := byt_range b (i + k)
  rw [← hj] at hx' hr
  have hx := fun (k : AV → Res) => indS (d := Res.fail) (k := k) (s := b) (i := j) (by omega)
  rw [← hx'] at hx hr
  have w0 : IntKind.i64.wrap x = x := wrap_id (by omega)
  have w1 : IntKind.i64.wrap (64 * z) = 64 * z := wrap_id (by omega)
  have w2 : IntKind.i64.wrap (64 * z + x) = 64 * z + x := wrap_id (by omega)
  have w3 : IntKind.i64.wrap (64 * z + x - 128) = 64 * z + x - 128 := wrap_id (by omega)
  by_cases h2 : x < 128
  · rw [hbad (.inl h2)]
    exact Evl.of (by rw [h112b0b, g112b0b]; simp [h1', e1, hx, w0, h2])
  · by_cases h3 : 191 < x
    · rw [hbad (.inr h3)]
      exact Evl.of (by rw [h112b0b, g112b0b]; simp [h1', e1, hx, w0, h2, h3])
    · have hg := hgo (by omega)
      exact Evl.of (by rw [h112b0b, g112b0b]; simp [h1', e1, e2, hx, w0, w1, w2, w3, h2, h3, hg])
theorem utf_ce (b : ByteArray) (i : Nat) (z : Int) : ev (q112b0c (iv 2) (sv b) (iv i) (iv z)) = some (1, [iv z, iv 128, iv 2]) := Evl.of (by rw [h112b0c, g112b0c]; simp)
theorem utf_cs (b : ByteArray) (i : Nat) (hb : b.size ≤ 1000000) (k : Nat) (hk : k < 2) (hi : i + k < b.size) (z : Int) (h0 : 0 ≤ z) (h1 : z ≤ 10000000) (k' : Int) (hk' : k' = (k : Int) + 1) (x : Int) (hx' : x = byt b (i + k))
    {r : Rs} (hbad : x < 128 ∨ 191 < x → r = (0, [iv 0])) (hgo : ¬ (x < 128 ∨ 191 < x) → ev (q112b0c (iv k') (sv b) (iv i) (iv (64 * z + x - 128))) = some r) : ev (q112b0c (iv k) (sv b) (iv i) (iv z)) = some r := by
  obtain ⟨j, hj⟩ : ∃ j, j = i + k := ⟨_, rfl⟩
  have h1' : (k : Int) < 2 := by omega
  have e1 := wtwo hj (by omega)
  have e2 : IntKind.i64.wrap ((k : Int) + 1) = k' := by rw [wrap_id (by omega), hk']
  have hr := byt_range b (i + k)
  rw [← hj] at hx' hr
  have hx := fun (k : AV → Res) => indS (d := Res.fail) (k := k) (s := b) (i := j) (by omega)
  rw [← hx'] at hx hr
  have w0 : IntKind.i64.wrap x = x := wrap_id (by omega)
  have w1 : IntKind.i64.wrap (64 * z) = 64 * z := wrap_id (by omega)
  have w2 : IntKind.i64.wrap (64 * z + x) = 64 * z + x := wrap_id (by omega)
  have w3 : IntKind.i64.wrap (64 * z + x - 128) = 64 * z + x - 128 := wrap_id (by omega)
  by_cases h2 : x < 128
  · rw [hbad (.inl h2)]
    exact Evl.of (by rw [h112b0c, g112b0c]; simp [h1', e1, hx, w0, h2])
  · by_cases h3 : 191 < x
    · rw [hbad (.inr h3)]
      exact Evl.of (by rw [h112b0c, g112b0c]; simp [h1', e1, hx, w0, h2, h3])
    · have hg := hgo (by omega)
      exact Evl.of (by rw [h112b0c, g112b0c]; simp [h1', e1, e2, hx, w0, w1, w2, w3, h2, h3, hg])
/-- What the loops give. -/
theorem utfc_x (b : ByteArray) (i : Nat) (hb : b.size ≤ 1000000) (hi : i + 1 < b.size) (z : Int) (h0 : 0 ≤ z) (h1 : z ≤ 1000) (x1 : Int) (e1 : x1 = byt b (i + 1)) :
    ev (q112b0c (iv 1) (sv b) (iv i) (iv z)) = some (if x1 < 128 ∨ 191 < x1 then (0, [iv 0]) else (1, [iv (64 * z + x1 - 128), iv 128, iv 2])) :=
  utf_cs b i hb 1 (by omega) hi z h0 (by omega) 2 rfl x1 e1 (fun h => by rw [if_pos h]) (fun h => by rw [if_neg h]; exact utf_ce b i _)
theorem utfb_x (b : ByteArray) (i : Nat) (hb : b.size ≤ 1000000) (hi : i + 2 < b.size) (z : Int) (h0 : 0 ≤ z) (h1 : z ≤ 1000) (x1 x2 : Int) (e1 : x1 = byt b (i + 1)) (e2 : x2 = byt b (i + 2)) :
    ev (q112b0b (iv 1) (sv b) (iv i) (iv z)) = some (if (x1 < 128 ∨ 191 < x1) ∨ (x2 < 128 ∨ 191 < x2) then (0, [iv 0]) else (1, [iv (64 * (64 * z + x1 - 128) + x2 - 128), iv 2048, iv 3])) :=
  utf_bs b i hb 1 (by omega) (by omega) z h0 (by omega) 2 rfl x1 e1 (fun h => by rw [if_pos (.inl h)]) (fun h => utf_bs b i hb 2 (by omega) hi _ (by omega) (by omega) 3 rfl x2 e2 (fun h' => by rw [if_pos (.inr h')]) (fun h' => by rw [if_neg (fun hh => hh.elim h h')]; exact utf_be b i _))
theorem utfa_x (b : ByteArray) (i : Nat) (hb : b.size ≤ 1000000) (hi : i + 3 < b.size) (z : Int) (h0 : 0 ≤ z) (h1 : z ≤ 1000) (x1 x2 x3 : Int) (e1 : x1 = byt b (i + 1)) (e2 : x2 = byt b (i + 2)) (e3 : x3 = byt b (i + 3)) :
    ev (q112b0a (iv 1) (sv b) (iv i) (iv z)) = some (if (x1 < 128 ∨ 191 < x1) ∨ (x2 < 128 ∨ 191 < x2) ∨ (x3 < 128 ∨ 191 < x3) then (0, [iv 0]) else (1, [iv (64 * (64 * (64 * z + x1 - 128) + x2 - 128) + x3 - 128), iv 65536, iv 4])) :=
  utf_as b i hb 1 (by omega) (by omega) z h0 (by omega) 2 rfl x1 e1 (fun h => by rw [if_pos (.inl h)]) (fun h => utf_as b i hb 2 (by omega) (by omega) _ (by omega) (by omega) 3 rfl x2 e2 (fun h' => by rw [if_pos (.inr (.inl h'))]) (fun h' => utf_as b i hb 3 (by omega) hi _ (by omega) (by omega) 4 rfl x3 e3 (fun h'' => by rw [if_pos (.inr (.inr h''))]) (fun h'' => by rw [if_neg (fun hh => hh.elim h (fun hh => hh.elim h' h''))]; exact utf_ae b i _)))
set_option maxHeartbeats 2000000 in
theorem utf_x (b : ByteArray) (hb : b.size ≤ 1000000) (i : Nat) (hi : i < b.size) : ev (q112 (sv b) (iv i)) = some (0, [iv (utfN (D b i) : Nat)]) := by
  have hx := fun (k : AV → Res) => indS (d := Res.fail) (k := k) hi
  have b0 := byteN_byt b i 0
  have b1 := byteN_byt b i 1
  have b2 := byteN_byt b i 2
  have b3 := byteN_byt b i 3
  rw [Nat.add_zero] at b0
  have l0 := byteN_lt (D b i) 0
  have l1 := byteN_lt (D b i) 1
  have l2 := byteN_lt (D b i) 2
  have l3 := byteN_lt (D b i) 3
  have hl := D_len b i
  have hp := prefix_iff (D b i)
  rw [← b0] at hx
  have ww : ∀ z : Int, 0 ≤ z → z ≤ 2000000 → IntKind.i64.wrap z = z := fun z h1 h2 => wrap_id (by omega)
  obtain ⟨c0, hc0⟩ : ∃ c, c = Lx.byteN (D b i) 0 := ⟨_, rfl⟩
  obtain ⟨c1, hc1⟩ : ∃ c, c = Lx.byteN (D b i) 1 := ⟨_, rfl⟩
  obtain ⟨c2, hc2⟩ : ∃ c, c = Lx.byteN (D b i) 2 := ⟨_, rfl⟩
  obtain ⟨c3, hc3⟩ : ∃ c, c = Lx.byteN (D b i) 3 := ⟨_, rfl⟩
  have hdec : Lx.decL (D b i) = Lib.decodeN (D b i).length c0 c1 c2 c3 := by unfold Lx.decL; rw [hc0, hc1, hc2, hc3]
  rw [← hc0] at hx b0 l0 hp
  rw [← hc1] at b1 l1 hp
  rw [← hc2] at b2 l2 hp
  rw [← hc3] at b3 l3
  have hbad : ∀ (v w : Nat), Lx.decL (D b i) = (v, w) → utfN (D b i) = if v = 65533 ∧ ¬ (2 < b.size - i ∧ c0 = 239 ∧ c1 = 191 ∧ c2 = 189) then 0 else w := by
    intro v w h
    unfold utfN Lx.badL
    rw [h]
    simp only
    rw [← hl]
    cases hq : Lib.hasPrefix (D b i) [239, 191, 189] with
    | true =>
      have := hp.1 hq
      rw [if_neg (by simp), if_neg (fun hh => hh.2 this)]
    | false =>
      have hn : ¬ (2 < (D b i).length ∧ c0 = 239 ∧ c1 = 191 ∧ c2 = 189) := fun h => by rw [hp.2 h] at hq; cases hq
      by_cases hv : v = 65533
      · rw [if_pos (by simp [hv]), if_pos ⟨hv, hn⟩]
      · have hv' : ¬ (v : Int) = 65533 := by omega
        rw [if_neg (by simp [hv']), if_neg (fun hh => hv hh.1)]
  have fin : ∀ (r : Nat), (∀ v w, Lx.decL (D b i) = (v, w) → (if v = 65533 ∧ ¬ (2 < b.size - i ∧ c0 = 239 ∧ c1 = 191 ∧ c2 = 189) then 0 else w) = r) → utfN (D b i) = r := by
    intro r h
    rw [hbad _ _ rfl]
    exact h _ _ rfl
  have ji1 : IntKind.i64.wrap ((i : Int) + 2) = (i : Int) + 2 := ww _ (by omega) (by omega)
  have ji2 : IntKind.i64.wrap ((i : Int) + 3) = (i : Int) + 3 := ww _ (by omega) (by omega)
  have ji3 : IntKind.i64.wrap ((i : Int) + 4) = (i : Int) + 4 := ww _ (by omega) (by omega)
  have w0 := ww (c0 : Int) (by omega) (by omega)
  rw [hdec, hl] at fin
  unfold Lib.decodeN at fin
  by_cases k1 : c0 < 128
  · rw [fin 1 (fun v w h => by rw [if_pos k1] at h; cases h; rw [if_neg (by omega)])]
    exact Evl.of (by rw [h112, g112]; simp [hx, w0, show (c0 : Int) < 128 by omega])
  rw [if_neg k1] at fin
  by_cases k2 : c0 < 192
  · rw [fin 0 (fun v w h => by rw [if_neg (by omega), if_neg (by omega), if_neg (by omega)] at h; cases h; rw [if_pos (by omega)])]
    exact Evl.of (by rw [h112, g112]; simp [hx, w0, show ¬ (c0 : Int) < 128 by omega, show ¬ (192 : Int) ≤ c0 by omega, show ¬ (224 : Int) ≤ c0 by omega, show ¬ (240 : Int) ≤ c0 by omega])
  by_cases k3 : c0 < 224
  · have wz : IntKind.i64.wrap ((c0 : Int) - 192) = (c0 : Int) - 192 := ww _ (by omega) (by omega)
    by_cases s2 : b.size < i + 2
    · rw [fin 0 (fun v w h => by rw [if_neg (by omega), if_neg (by omega), if_neg (by omega)] at h; cases h; rw [if_pos (by omega)])]
      exact Evl.of (by rw [h112, g112]; simp [hx, w0, wz, show ¬ (c0 : Int) < 128 by omega, show (c0 : Int) < 224 by omega, ji1, show (192 : Int) ≤ c0 by omega, show ¬ (224 : Int) ≤ c0 by omega, show ¬ (240 : Int) ≤ c0 by omega, show (b.size : Int) < (i : Int) + 2 by omega])
    · have hu := utfc_x b i hb (by omega) ((c0 : Int) - 192) (by omega) (by omega) _ b1
      have hs : ¬ (b.size : Int) < (i : Int) + 2 := by omega
      by_cases r1 : (c1 : Int) < 128 ∨ 191 < (c1 : Int)
      · rw [if_pos r1] at hu
        rw [fin 0 (fun v w h => by rw [if_neg (by omega), if_neg (by omega), if_neg (by omega)] at h; cases h; rw [if_pos (by omega)])]
        exact Evl.of (by rw [h112, g112]; simp [hx, w0, wz, show ¬ (c0 : Int) < 128 by omega, show (c0 : Int) < 224 by omega, ji1, show (192 : Int) ≤ c0 by omega, show ¬ (224 : Int) ≤ c0 by omega, show ¬ (240 : Int) ≤ c0 by omega, hs, hu])
      · rw [if_neg r1] at hu
        obtain ⟨y, hy⟩ : ∃ y : Int, y = 64 * ((c0 : Int) - 192) + (c1 : Int) - 128 := ⟨_, rfl⟩
        rw [← hy] at hu
        by_cases v1 : y < 128
        · rw [fin 0 (fun v w h => by rw [if_pos (by omega), if_neg (by omega)] at h; cases h; rw [if_pos (by omega)])]
          exact Evl.of (by rw [h112, g112]; simp [hx, w0, wz, show ¬ (c0 : Int) < 128 by omega, show (c0 : Int) < 224 by omega, ji1, show (192 : Int) ≤ c0 by omega, show ¬ (224 : Int) ≤ c0 by omega, show ¬ (240 : Int) ≤ c0 by omega, hs, hu, v1])
        · rw [fin 2 (fun v w h => by rw [if_pos (by omega), if_pos (by omega)] at h; cases h; rw [if_neg (by omega)])]
          exact Evl.of (by rw [h112, g112]; simp [hx, w0, wz, show ¬ (c0 : Int) < 128 by omega, show (c0 : Int) < 224 by omega, ji1, show (192 : Int) ≤ c0 by omega, show ¬ (224 : Int) ≤ c0 by omega, show ¬ (240 : Int) ≤ c0 by omega, hs, hu, v1, show ¬ 1114111 < y by omega, show ¬ 55296 ≤ y by omega])
  by_cases k4 : c0 < 240
  · have wz : IntKind.i64.wrap ((c0 : Int) - 224) = (c0 : Int) - 224 := ww _ (by omega) (by omega)
    have wq : IntKind.i64.wrap ((c0 : Int) - 192) = (c0 : Int) - 192 := ww _ (by omega) (by omega)
    by_cases s2 : b.size < i + 3
    · rw [fin 0 (fun v w h => by rw [if_neg (by omega), if_neg (by omega), if_neg (by omega)] at h; cases h; rw [if_pos (by omega)])]
      exact Evl.of (by rw [h112, g112]; simp [hx, w0, wz, wq, show ¬ (c0 : Int) < 128 by omega, show ¬ (c0 : Int) < 224 by omega, show (c0 : Int) < 240 by omega, ji2, show (192 : Int) ≤ c0 by omega, show (224 : Int) ≤ c0 by omega, show ¬ (240 : Int) ≤ c0 by omega, show (b.size : Int) < (i : Int) + 3 by omega])
    · have hu := utfb_x b i hb (by omega) ((c0 : Int) - 224) (by omega) (by omega) _ _ b1 b2
      have hs : ¬ (b.size : Int) < (i : Int) + 3 := by omega
      by_cases r1 : ((c1 : Int) < 128 ∨ 191 < (c1 : Int)) ∨ ((c2 : Int) < 128 ∨ 191 < (c2 : Int))
      · rw [if_pos r1] at hu
        rw [fin 0 (fun v w h => by rw [if_neg (by omega), if_neg (by omega), if_neg (by omega)] at h; cases h; rw [if_pos (by omega)])]
        exact Evl.of (by rw [h112, g112]; simp [hx, w0, wz, wq, show ¬ (c0 : Int) < 128 by omega, show ¬ (c0 : Int) < 224 by omega, show (c0 : Int) < 240 by omega, ji2, show (192 : Int) ≤ c0 by omega, show (224 : Int) ≤ c0 by omega, show ¬ (240 : Int) ≤ c0 by omega, hs, hu])
      · rw [if_neg r1] at hu
        obtain ⟨y, hy⟩ : ∃ y : Int, y = 64 * (64 * ((c0 : Int) - 224) + (c1 : Int) - 128) + (c2 : Int) - 128 := ⟨_, rfl⟩
        rw [← hy] at hu
        by_cases v1 : y < 2048
        · rw [fin 0 (fun v w h => by rw [if_neg (by omega), if_pos (by omega), if_neg (by omega)] at h; cases h; rw [if_pos (by omega)])]
          exact Evl.of (by rw [h112, g112]; simp [hx, w0, wz, wq, show ¬ (c0 : Int) < 128 by omega, show ¬ (c0 : Int) < 224 by omega, show (c0 : Int) < 240 by omega, ji2, show (192 : Int) ≤ c0 by omega, show (224 : Int) ≤ c0 by omega, show ¬ (240 : Int) ≤ c0 by omega, hs, hu, v1])
        · by_cases v2 : 55296 ≤ y ∧ y ≤ 57343
          · rw [fin 0 (fun v w h => by rw [if_neg (by omega), if_pos (by omega), if_neg (by omega)] at h; cases h; rw [if_pos (by omega)])]
            exact Evl.of (by rw [h112, g112]; simp [hx, w0, wz, wq, show ¬ (c0 : Int) < 128 by omega, show ¬ (c0 : Int) < 224 by omega, show (c0 : Int) < 240 by omega, ji2, show (192 : Int) ≤ c0 by omega, show (224 : Int) ≤ c0 by omega, show ¬ (240 : Int) ≤ c0 by omega, hs, hu, v1, show ¬ 1114111 < y by omega, v2.1, v2.2])
          · rw [fin 3 (fun v w h => by rw [if_neg (by omega), if_pos (by omega), if_pos (by omega)] at h; cases h; rw [if_neg (by omega)])]
            by_cases v3 : 55296 ≤ y
            · exact Evl.of (by rw [h112, g112]; simp [hx, w0, wz, wq, show ¬ (c0 : Int) < 128 by omega, show ¬ (c0 : Int) < 224 by omega, show (c0 : Int) < 240 by omega, ji2, show (192 : Int) ≤ c0 by omega, show (224 : Int) ≤ c0 by omega, show ¬ (240 : Int) ≤ c0 by omega, hs, hu, v1, show ¬ 1114111 < y by omega, v3, show ¬ y ≤ 57343 by omega])
            · exact Evl.of (by rw [h112, g112]; simp [hx, w0, wz, wq, show ¬ (c0 : Int) < 128 by omega, show ¬ (c0 : Int) < 224 by omega, show (c0 : Int) < 240 by omega, ji2, show (192 : Int) ≤ c0 by omega, show (224 : Int) ≤ c0 by omega, show ¬ (240 : Int) ≤ c0 by omega, hs, hu, v1, show ¬ 1114111 < y by omega, v3])
  by_cases k5 : c0 < 248
  · have wz : IntKind.i64.wrap ((c0 : Int) - 240) = (c0 : Int) - 240 := ww _ (by omega) (by omega)
    have wq : IntKind.i64.wrap ((c0 : Int) - 192) = (c0 : Int) - 192 := ww _ (by omega) (by omega)
    have wr : IntKind.i64.wrap ((c0 : Int) - 224) = (c0 : Int) - 224 := ww _ (by omega) (by omega)
    by_cases s2 : b.size < i + 4
    · rw [fin 0 (fun v w h => by rw [if_neg (by omega), if_neg (by omega), if_neg (by omega)] at h; cases h; rw [if_pos (by omega)])]
      exact Evl.of (by rw [h112, g112]; simp [hx, w0, wz, wq, wr, show ¬ (c0 : Int) < 128 by omega, show ¬ (c0 : Int) < 224 by omega, show ¬ (c0 : Int) < 240 by omega, show (c0 : Int) < 248 by omega, ji3, show (192 : Int) ≤ c0 by omega, show (224 : Int) ≤ c0 by omega, show (240 : Int) ≤ c0 by omega, show (b.size : Int) < (i : Int) + 4 by omega])
    · have hu := utfa_x b i hb (by omega) ((c0 : Int) - 240) (by omega) (by omega) _ _ _ b1 b2 b3
      have hs : ¬ (b.size : Int) < (i : Int) + 4 := by omega
      by_cases r1 : ((c1 : Int) < 128 ∨ 191 < (c1 : Int)) ∨ ((c2 : Int) < 128 ∨ 191 < (c2 : Int)) ∨ ((c3 : Int) < 128 ∨ 191 < (c3 : Int))
      · rw [if_pos r1] at hu
        rw [fin 0 (fun v w h => by rw [if_neg (by omega), if_neg (by omega), if_neg (by omega)] at h; cases h; rw [if_pos (by omega)])]
        exact Evl.of (by rw [h112, g112]; simp [hx, w0, wz, wq, wr, show ¬ (c0 : Int) < 128 by omega, show ¬ (c0 : Int) < 224 by omega, show ¬ (c0 : Int) < 240 by omega, show (c0 : Int) < 248 by omega, ji3, show (192 : Int) ≤ c0 by omega, show (224 : Int) ≤ c0 by omega, show (240 : Int) ≤ c0 by omega, hs, hu])
      · rw [if_neg r1] at hu
        obtain ⟨y, hy⟩ : ∃ y : Int, y = 64 * (64 * (64 * ((c0 : Int) - 240) + (c1 : Int) - 128) + (c2 : Int) - 128) + (c3 : Int) - 128 := ⟨_, rfl⟩
        rw [← hy] at hu
        by_cases v1 : y < 65536
        · rw [fin 0 (fun v w h => by rw [if_neg (by omega), if_neg (by omega), if_pos (by omega), if_neg (by omega)] at h; cases h; rw [if_pos (by omega)])]
          exact Evl.of (by rw [h112, g112]; simp [hx, w0, wz, wq, wr, show ¬ (c0 : Int) < 128 by omega, show ¬ (c0 : Int) < 224 by omega, show ¬ (c0 : Int) < 240 by omega, show (c0 : Int) < 248 by omega, ji3, show (192 : Int) ≤ c0 by omega, show (224 : Int) ≤ c0 by omega, show (240 : Int) ≤ c0 by omega, hs, hu, v1])
        · by_cases v2 : 1114111 < y
          · rw [fin 0 (fun v w h => by rw [if_neg (by omega), if_neg (by omega), if_pos (by omega), if_neg (by omega)] at h; cases h; rw [if_pos (by omega)])]
            exact Evl.of (by rw [h112, g112]; simp [hx, w0, wz, wq, wr, show ¬ (c0 : Int) < 128 by omega, show ¬ (c0 : Int) < 224 by omega, show ¬ (c0 : Int) < 240 by omega, show (c0 : Int) < 248 by omega, ji3, show (192 : Int) ≤ c0 by omega, show (224 : Int) ≤ c0 by omega, show (240 : Int) ≤ c0 by omega, hs, hu, v1, v2])
          · rw [fin 4 (fun v w h => by rw [if_neg (by omega), if_neg (by omega), if_pos (by omega), if_pos (by omega)] at h; cases h; rw [if_neg (by omega)])]
            exact Evl.of (by rw [h112, g112]; simp [hx, w0, wz, wq, wr, show ¬ (c0 : Int) < 128 by omega, show ¬ (c0 : Int) < 224 by omega, show ¬ (c0 : Int) < 240 by omega, show (c0 : Int) < 248 by omega, ji3, show (192 : Int) ≤ c0 by omega, show (224 : Int) ≤ c0 by omega, show (240 : Int) ≤ c0 by omega, hs, hu, v1, v2, show 55296 ≤ y by omega, show ¬ y ≤ 57343 by omega])
  · rw [fin 0 (fun v w h => by rw [if_neg (by omega), if_neg (by omega), if_neg (by omega)] at h; cases h; rw [if_pos (by omega)])]
    exact Evl.of (by rw [h112, g112]; simp [hx, w0, ww ((c0 : Int) - 192) (by omega) (by omega), ww ((c0 : Int) - 224) (by omega) (by omega), ww ((c0 : Int) - 240) (by omega) (by omega), show ¬ (c0 : Int) < 128 by omega, show ¬ (c0 : Int) < 224 by omega, show ¬ (c0 : Int) < 240 by omega, show ¬ (c0 : Int) < 248 by omega, show (192 : Int) ≤ c0 by omega, show (224 : Int) ≤ c0 by omega, show (240 : Int) ≤ c0 by omega])
/-- The first byte that is no UTF-8. -/
theorem bad_xl (b : ByteArray) (hb : b.size ≤ 1000000) : ∀ (m i : Nat), b.size - i < m → ev (q83b0a (iv i) (sv b)) = some (match Lx.spoilL m (D b i) with | none => (1, []) | some k => (0, [iv (b.size - k : Nat)])) := by
  intro m
  induction m with
  | zero => intro i hi; omega
  | succ m ih =>
    intro i hi
    by_cases h1 : i < b.size
    · have h1' : (i : Int) < (b.size : Int) := by omega
      have hu := utf_x b hb i h1
      unfold utfN at hu
      have hne : D b i ≠ [] := by rw [D_cons h1]; simp
      have hw := Lx.decL_width b[i] (D b (i + 1))
      rw [← D_cons h1, D_len] at hw
      rw [Lx.spoilL, if_neg hne]
      by_cases h2 : Lx.badL (D b i) = true
      · rw [if_pos h2] at hu
        rw [if_pos h2, D_len]
        simp only
        rw [show b.size - (b.size - i) = i by omega]
        exact Evl.of (by rw [h83b0a, g83b0a]; simp [h1', hu])
      · rw [if_neg h2] at hu
        rw [if_neg h2]
        obtain ⟨n, hn⟩ : ∃ n, n = (Lx.decL (D b i)).2 := ⟨_, rfl⟩
        rw [← hn] at hu hw ⊢
        obtain ⟨j, hj⟩ : ∃ j, j = i + n := ⟨_, rfl⟩
        have e1 := wtwo hj (by omega)
        have hn0 : ¬ (n : Int) = 0 := by omega
        have hg := ih j (by omega)
        rw [show (D b i).drop n = D b j by rw [List.drop_drop, hj]]
        cases hs : Lx.spoilL m (D b j) with
        | none => rw [hs] at hg; exact Evl.of (by rw [h83b0a, g83b0a]; simp [-Int.natCast_eq_zero, h1', hu, hn0, e1, hg])
        | some k => rw [hs] at hg; exact Evl.of (by rw [h83b0a, g83b0a]; simp [-Int.natCast_eq_zero, h1', hu, hn0, e1, hg])
    · rw [Lx.spoilL, if_pos (D_nil (by omega))]
      exact Evl.of (by rw [h83b0a, g83b0a]; simp [show ¬ (i : Int) < (b.size : Int) by omega])
theorem bad_x (b : ByteArray) (hb : b.size ≤ 1000000) : ev (q83 (sv b)) = some (0, [iv (match Lx.spoilAll b.data.toList with | none => -1 | some k => ((b.size - k : Nat) : Int))]) := by
  have h0 : ev (q83b0a (iv 0) (sv b)) = _ := bad_xl b hb (b.size + 1) 0 (by omega)
  rw [show Lx.spoilL (b.size + 1) (D b 0) = Lx.spoilAll b.data.toList from rfl] at h0
  cases hs : Lx.spoilAll b.data.toList with
  | none => rw [hs] at h0; exact Evl.of (by rw [h83, g83]; simp [h0])
  | some k => rw [hs] at h0; exact Evl.of (by rw [h83, g83]; simp [h0])
end Go.Proofs.YtijcobeebaceoaaGreatDoor
namespace Go.Proofs.YtijcobeebaceoaaGreatDoor
open Go.RowKit
set_option linter.unusedSimpArgs false
set_option linter.unusedVariables false
set_option linter.unusedSectionVars false

theorem oneL_err {l : List UInt8} {e : Int} (h : Lx.oneL l = .error e) : e ≠ 0 := by
  have hp : ∀ {k : Int} {x : List UInt8} {n : Int} {r : List UInt8}, Lx.putL k x n r = .error e → e ≠ 0 := by
    intro k x n r h
    unfold Lx.putL at h
    split at h
    · cases h; decide
    · cases h
  unfold Lx.oneL at h
  split at h
  · cases h; decide
  · split at h
    · exact hp h
    · split at h
      · split at h
        · cases h; decide
        · exact hp h
      · split at h
        · split at h
          · cases h; decide
          · exact hp h
        · split at h
          · exact hp h
          · split at h
            · exact hp h
            · cases h; decide
theorem raw_tk (l : List Tk) : Raw 4 (l.map Tk.cells) (l.map Tk.cells) := .of l (fun x => by simp [Tk.cells]) (fun x => rfl) (fun x => by simp [Tk.cells])
theorem appK_tks (l : List Tk) (x : Tk) (k : PV → Res) (hl : l.length ≤ 3000000) : appK PG .fail 66 (.pv (.rows (l.map Tk.cells))) (.pv (.rows [[iv x.kind, sv x.text, iv x.n, iv x.at_]])) k = k (.rows ((l ++ [x]).map Tk.cells)) := by
  rw [appK_raw (P := PG) (d := .fail) sl_tks (raw_tk l) (c := [iv x.kind, sv x.text, iv x.n, iv x.at_]) rfl (by simp) (by simp; omega) (by decide)]
  simp [Tk.cells]
def endT (b : ByteArray) : Tk := ⟨0, eB, 0, (b.size : Int)⟩
def mkT (b : ByteArray) (t : Lx.LTok) : Tk := ofTok (Lx.toTok b.size t)
theorem mkT_of (b : ByteArray) (k : Int) (x : List UInt8) (n : Int) (i : Nat) (hi : i ≤ b.size) : mkT b (k, x, n, (D b i).length) = ⟨k, Lx.textOf x, n, (i : Int)⟩ := by
  unfold mkT ofTok Lx.toTok
  simp only
  rw [D_len, show b.size - (b.size - i) = i by omega]
theorem scanL_len : ∀ (f : Nat) (l : List UInt8) (ts : List Lx.LTok), Lx.scanL f l = .ok ts → ts.length ≤ l.length + 1
  | 0, l, ts, h => by cases h; simp
  | f + 1, [], ts, h => by cases h; simp
  | f + 1, c :: l, ts, h => by
    simp only [Lx.scanL] at h
    cases h1 : Lx.oneL (c :: l) with
    | error e => rw [h1] at h; cases h
    | ok p =>
      obtain ⟨k, x, n, r⟩ := p
      rw [h1] at h
      simp only at h
      cases h2 : Lx.scanL f (Lx.skipC false r) with
      | error e => rw [h2] at h; cases h
      | ok ts' =>
        rw [h2] at h
        cases h
        have := scanL_len f _ _ h2
        have := Lx.oneL_shorter h1
        simp; omega
theorem mkT_end (b : ByteArray) : mkT b (0, [], 0, 0) = endT b := rfl
/-- What the loop answers, where the lists' scanner answers o. -/
def LoopV (b : ByteArray) (acc : List Tk) (o : Except (Int × Nat) (List Lx.LTok)) (r : Option Rs) : Prop := match o with
  | .error (e, k) => e ≠ 0 ∧ r = some (0, [nS, iv e, iv (b.size - k : Nat)])
  | .ok ts => ∃ L', r = some (2, [.rows ((acc ++ L').map Tk.cells), sv b]) ∧ ts.map (mkT b) = L' ++ [endT b]
def LoopA (b : ByteArray) (o : Except (Int × Nat) (List Lx.LTok)) (r : Option Rs) : Prop := match o with
  | .error (e, k) => e ≠ 0 ∧ r = some (0, [nS, iv e, iv (b.size - k : Nat)])
  | .ok ts => ∃ L', ts.map (mkT b) = L' ++ [endT b] ∧ r = some (match L' with | [] => (1, [nS, sv b]) | x :: l => (2, [.rows ((x :: l).map Tk.cells), sv b]))
/-- One token, and the place of the next. -/
theorem one_step (b : ByteArray) (hb : b.size ≤ 60000) (i : Nat) (h1 : i < b.size) (k : Int) (x : List UInt8) (n : Int) (r : List UInt8) (hone : Lx.oneL (b[i] :: D b (i + 1)) = .ok (k, x, n, r)) :
    ∃ j i' : Nat, ev (q85 (sv b) (iv i)) = some (0, [iv k, sv (Lx.textOf x), iv n, iv i, iv j, iv 0]) ∧ ev (q84 (sv b) (iv j)) = some (0, [iv i']) ∧ i < i' ∧ i' ≤ b.size ∧ D b i' = Lx.skipC false r := by
  have ho := one_x b (by omega) i h1
  rw [D_cons h1, hone] at ho
  have hev : ev (q85 (sv b) (iv i)) = _ := ho
  obtain ⟨q, hq⟩ := Lx.oneL_suffix hone
  have hq' : r = D b (i + 1 + q) := by rw [hq, List.drop_drop]
  have hdp := Lx.drop_pos b r (i + 1 + q) hq'
  have hrl : r.length ≤ b.size := by rw [hq', D_len]; omega
  have hov := over_x b (by omega) (b.size - r.length) (by omega)
  have hds := Lx.drop_skipPos b (b.size - r.length)
  rw [hdp] at hds
  have hge := Lx.skipPos_ge b (b.size - r.length) (by omega)
  have hsh := Lx.oneL_shorter hone
  rw [← hds, D_len, D_len] at hsh
  exact ⟨b.size - r.length, Lx.skipPos b (b.size - r.length), hev, hov, by omega, hge.2, hds⟩
theorem scan_lb (b : ByteArray) (hb : b.size ≤ 60000) : ∀ (m i : Nat) (acc : List Tk), b.size - i < m → i ≤ b.size → acc.length ≤ i → LoopV b acc (Lx.scanL m (D b i)) (ev (q48b0b (iv i) (sv b) (acc.map Tk.cells))) := by
  intro m
  induction m with
  | zero => intro i acc hi; omega
  | succ m ih =>
    intro i acc hi hi2 ha
    by_cases h1 : i < b.size
    · have h1' : (i : Int) < (b.size : Int) := by omega
      rw [D_cons h1]
      simp only [Lx.scanL]
      cases hone : Lx.oneL (b[i] :: D b (i + 1)) with
      | error e =>
        have ho := one_x b (by omega) i h1
        rw [D_cons h1, hone] at ho
        obtain ⟨k, t, n, hev⟩ := ho
        have he := oneL_err hone
        refine ⟨he, ?_⟩
        rw [← D_cons h1, D_len, show b.size - (b.size - i) = i by omega]
        exact Evl.of (by rw [h48b0b, g48b0b]; simp [h1', hev, he])
      | ok p =>
        obtain ⟨k, x, n, r⟩ := p
        dsimp only
        obtain ⟨j, i', hev, hov, hlt, hle, hds⟩ := one_step b hb i h1 k x n r hone
        obtain ⟨rr, hrr⟩ : ∃ rr, rr = (acc ++ [(⟨k, Lx.textOf x, n, (i : Int)⟩ : Tk)]).map Tk.cells := ⟨_, rfl⟩
        have ap : ∀ kk : PV → Res, appK PG .fail 66 (.pv (.rows (acc.map Tk.cells))) (.pv (.rows [[iv k, sv (Lx.textOf x), iv n, iv i]])) kk = kk (.rows rr) := fun kk => by
          rw [hrr]; exact appK_tks acc ⟨k, Lx.textOf x, n, (i : Int)⟩ kk (by omega)
        have hih := ih i' (acc ++ [(⟨k, Lx.textOf x, n, (i : Int)⟩ : Tk)]) (by omega) hle (by simp; omega)
        rw [← hrr] at hih
        have hst : ∀ R, ev (q48b0b (iv i') (sv b) rr) = some R → ev (q48b0b (iv i) (sv b) (acc.map Tk.cells)) = some R := fun R hR => Evl.of (by
          rw [h48b0b, g48b0b]; simp [h1', hev, ap, hov, hR])
        rw [hds] at hih
        cases hs : Lx.scanL m (Lx.skipC false r) with
        | error p => obtain ⟨e, kk⟩ := p; rw [hs] at hih; exact ⟨hih.1, hst _ hih.2⟩
        | ok ts =>
          rw [hs] at hih
          obtain ⟨L', h2, h3⟩ := hih
          refine ⟨⟨k, Lx.textOf x, n, (i : Int)⟩ :: L', ?_, ?_⟩
          · rw [hst _ h2]; simp
          · rw [List.map_cons, ← D_cons h1, mkT_of b k x n i hi2, h3]; rfl
    · rw [D_nil (by omega)]
      refine ⟨[], ?_, by simp [mkT_end]⟩
      exact Evl.of (by rw [h48b0b, g48b0b]; simp [show ¬ (i : Int) < (b.size : Int) by omega])
theorem scan_la (b : ByteArray) (hb : b.size ≤ 60000) (m i : Nat) (hi : b.size - i < m) (hi2 : i ≤ b.size) : LoopA b (Lx.scanL m (D b i)) (ev (q48b0a (iv i) (sv b))) := by
  obtain ⟨m, rfl⟩ : ∃ k, m = k + 1 := ⟨m - 1, by omega⟩
  by_cases h1 : i < b.size
  · have h1' : (i : Int) < (b.size : Int) := by omega
    rw [D_cons h1]
    simp only [Lx.scanL]
    cases hone : Lx.oneL (b[i] :: D b (i + 1)) with
    | error e =>
      have ho := one_x b (by omega) i h1
      rw [D_cons h1, hone] at ho
      obtain ⟨k, t, n, hev⟩ := ho
      have he := oneL_err hone
      refine ⟨he, ?_⟩
      rw [← D_cons h1, D_len, show b.size - (b.size - i) = i by omega]
      exact Evl.of (by rw [h48b0a, g48b0a]; simp [h1', hev, he])
    | ok p =>
      obtain ⟨k, x, n, r⟩ := p
      dsimp only
      obtain ⟨j, i', hev, hov, hlt, hle, hds⟩ := one_step b hb i h1 k x n r hone
      have hih := scan_lb b hb m i' [(⟨k, Lx.textOf x, n, (i : Int)⟩ : Tk)] (by omega) hle (by simp; omega)
      have hst : ∀ R, ev (q48b0b (iv i') (sv b) [[iv k, sv (Lx.textOf x), iv n, iv i]]) = some R → ev (q48b0a (iv i) (sv b)) = some R := fun R hR => Evl.of (by
        rw [h48b0a, g48b0a]; simp [h1', hev, hov, hR])
      rw [hds] at hih
      cases hs : Lx.scanL m (Lx.skipC false r) with
      | error p => obtain ⟨e, kk⟩ := p; rw [hs] at hih; exact ⟨hih.1, hst _ hih.2⟩
      | ok ts =>
        rw [hs] at hih
        obtain ⟨L', h2, h3⟩ := hih
        refine ⟨⟨k, Lx.textOf x, n, (i : Int)⟩ :: L', ?_, ?_⟩
        · rw [List.map_cons, ← D_cons h1, mkT_of b k x n i hi2, h3]; rfl
        · rw [hst _ h2]; rfl
  · rw [D_nil (by omega)]
    refine ⟨[], by simp [mkT_end], ?_⟩
    exact Evl.of (by rw [h48b0a, g48b0a]; simp [show ¬ (i : Int) < (b.size : Int) by omega])
/-- The tokens of a text, as both parsers see them. -/
def scanT (b : ByteArray) : Except (Int × Nat) (List Tk) := match Lx.scanP b with
  | .ok ts => .ok (ts.map ofTok)
  | .error p => .error p
theorem scanT_form (b : ByteArray) (hb : b.size ≤ 60000) : scanT b = match Lx.spoilAll b.data.toList with
    | some m => .error (100, b.size - m)
    | none => match Lx.scanL (b.size + 1) (D b (Lx.skipPos b 0)) with | .error (e, k) => .error (e, b.size - k) | .ok ts => .ok (ts.map (mkT b)) := by
  unfold scanT
  rw [Lx.scanP_form b hb]
  cases Lx.spoilAll b.data.toList with
  | some m => rfl
  | none =>
    simp only
    have hd : D b (Lx.skipPos b 0) = Lx.skipC false b.data.toList := Lx.drop_skipPos b 0
    have e : Lx.scanAll b.data.toList = Lx.scanL (b.size + 1) (D b (Lx.skipPos b 0)) := by
      rw [hd]
      unfold Lx.scanAll
      have h1 := Lx.skipC_length false b.data.toList
      have hl : b.data.toList.length = b.size := rfl
      exact Lx.scanL_two _ _ _ (by omega) (by omega)
    rw [e]
    cases Lx.scanL (b.size + 1) (D b (Lx.skipPos b 0)) with
    | error p => rfl
    | ok ts => simp [Lx.liftScan, mkT]
theorem scan_x (b : ByteArray) : ev (q48w (sv b)) = some (0, match scanT b with
    | .ok L => [tks L, iv 0, iv 0]
    | .error (c, p) => [tks [], iv c, iv p]) := by
  have key : ∀ (s : Nat) (ys : List PV), ev (q48 (sv b)) = some (s, ys) → ev (q48w (sv b)) = some (0, wkPs ys) := fun s ys h => Evl.of (by
    rw [h48w]
    show weakK (ev (q48 (sv b))) = _
    rw [h, weakK_some])
  by_cases h0 : 60000 < b.size
  · have h0' : (60000 : Int) < (b.size : Int) := by omega
    have e : scanT b = .error (3, 0) := by unfold scanT Lx.scanP; rw [if_pos h0]
    rw [e, key 0 [nS, iv 3, iv 0] (Evl.of (by rw [h48, g48]; simp [h0']))]
    rfl
  have hb : b.size ≤ 60000 := by omega
  have h0' : ¬ (60000 : Int) < (b.size : Int) := by omega
  have hbad := bad_x b (by omega)
  rw [scanT_form b hb]
  cases hsp : Lx.spoilAll b.data.toList with
  | some m =>
    rw [hsp] at hbad
    rw [key 0 [nS, iv 100, iv (b.size - m : Nat)] (Evl.of (by rw [h48, g48]; simp [h0', hbad]))]
    rfl
  | none =>
    rw [hsp] at hbad
    simp only at hbad ⊢
    have hov := over_x b (by omega) 0 (by omega)
    have hov' : ev (q84 (sv b) (iv 0)) = some (0, [iv (Lx.skipPos b 0 : Nat)]) := hov
    have hge := Lx.skipPos_ge b 0 (by omega)
    obtain ⟨i, hi⟩ : ∃ i, i = Lx.skipPos b 0 := ⟨_, rfl⟩
    rw [← hi] at hov' hge ⊢
    have hl := scan_la b hb (b.size + 1) i (by omega) hge.2
    cases hs : Lx.scanL (b.size + 1) (D b i) with
    | error p =>
      obtain ⟨e, k⟩ := p
      rw [hs] at hl
      have hl2 := hl.2
      rw [key 0 [nS, iv e, iv (b.size - k : Nat)] (Evl.of (by rw [h48, g48]; simp [h0', hbad, hov', hl2]))]
      rfl
    | ok ts =>
      rw [hs] at hl
      obtain ⟨L', h3, h4⟩ := hl
      simp only
      rw [h3]
      have hlen : L'.length ≤ b.size := by
        have := scanL_len _ _ _ hs
        have e := congrArg List.length h3
        simp at e
        rw [D_len] at this
        omega
      cases L' with
      | nil =>
        simp only at h4
        rw [key 1 [.rows [[iv 0, sv eB, iv 0, iv b.size]], iv 0, iv 0] (Evl.of (by rw [h48, g48]; simp [h0', hbad, hov', h4]))]
        rfl
      | cons x l =>
        simp only at h4
        have ap : ∀ kk : PV → Res, appK PG .fail 66 (.pv (.rows ((x :: l).map Tk.cells))) (.pv (.rows [[iv 0, sv eB, iv 0, iv b.size]])) kk = kk (.rows ((x :: l ++ [endT b]).map Tk.cells)) := fun kk => appK_tks (x :: l) (endT b) kk (by omega)
        obtain ⟨ra, hra⟩ : ∃ ra, ra = (x :: l).map Tk.cells := ⟨_, rfl⟩
        obtain ⟨rr, hrr⟩ : ∃ rr, rr = (x :: l ++ [endT b]).map Tk.cells := ⟨_, rfl⟩
        rw [← hra] at h4
        simp only [← hra, ← hrr] at ap
        rw [key 1 [.rows rr, iv 0, iv 0] (Evl.of (by rw [h48, g48]; simp [h0', hbad, hov', h4, ap]))]
        rw [hrr]
        rfl
end Go.Proofs.YtijcobeebaceoaaGreatDoor
