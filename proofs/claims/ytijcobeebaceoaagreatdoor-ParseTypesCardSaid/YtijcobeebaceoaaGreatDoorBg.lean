/- Joined texts. -/
import Derived.Test.YtijcobeebaceoaaGreatDoorBf
namespace Go.Proofs.YtijcobeebaceoaaGreatDoor
open Go.RowKit
set_option linter.unusedSimpArgs false
set_option linter.unusedVariables false
set_option linter.unusedSectionVars false

theorem uS : PG.underlying 9 = some .string := by kernel_rfl
theorem u8 : PG.underlying 5 = some (.int .u8) := by kernel_rfl
theorem uI : PG.underlying 3 = some (.int .i64) := by kernel_rfl
theorem uL : PG.underlying 2 = some (.int .i64) := by kernel_rfl
theorem uU : PG.underlying 183 = some (.int .u64) := by kernel_rfl
theorem uB : PG.underlying 180 = some (.slice 5) := by kernel_rfl
section
variable {β : Type} {d : β} {k : AV → β}
@[simp] theorem lenS (s : ByteArray) : lenK PG d 9 (.pv (sv s)) k = k (.pv (iv s.size)) := lenK_str uS s
theorem indS {s : ByteArray} {i : Nat} (hi : i < s.size) : indK PG d 9 (.pv (sv s)) (.pv (iv i)) k = k (.pv (cv (byt s i))) := indK_str uS hi
theorem slcS {s : ByteArray} {l m : Nat} (hl : l ≤ m) (hm : m ≤ s.size) : slcK PG d 9 (.pv (sv s)) (some (.pv (iv l))) (some (.pv (iv m))) k = k (.pv (sv (s.extract l m))) := slcK_str uS hl hm
@[simp] theorem convBI (n : Int) : convK PG d 5 3 (.pv (cv n)) k = k (.pv (iv (IntKind.i64.wrap n))) := convK_int u8 uI n
@[simp] theorem convBU (n : Int) : convK PG d 5 183 (.pv (cv n)) k = k (.pv (wv (IntKind.u64.wrap n))) := convK_int u8 uU n
@[simp] theorem convUL (n : Int) : convK PG d 183 2 (.pv (wv n)) k = k (.pv (iv (IntKind.i64.wrap n))) := convK_int uU uL n
@[simp] theorem convLU (n : Int) : convK PG d 2 183 (.pv (iv n)) k = k (.pv (wv (IntKind.u64.wrap n))) := convK_int uL uU n
end
theorem wby (b : ByteArray) (i : Nat) : IntKind.i64.wrap (byt b i) = byt b i := wrap_id (by have := byt_range b i; omega)
theorem wone {i j : Nat} (hj : j = i + 1) (h : i ≤ 1000000000) : IntKind.i64.wrap ((i : Int) + 1) = (j : Int) := by rw [wrap_id (by omega)]; omega
theorem wtwo {i j k : Nat} (hj : j = i + k) (h : i + k ≤ 1000000000) : IntKind.i64.wrap ((i : Int) + (k : Int)) = (j : Int) := by rw [wrap_id (by omega)]; omega
theorem utf_a (b : ByteArray) (i : Nat) (hb : b.size ≤ 1000000) (hi : i + 4 ≤ b.size) : ∀ (m k : Nat), k + m = 4 → ∀ z : Int, ∃ r, ev (q112b0a (iv k) (sv b) (iv i) (iv z)) = some r ∧ (r = (0, [iv 0]) ∨ ∃ y : Int, r = (1, [iv y, iv 65536, iv 4])) := by
  intro m
  induction m with
  | zero =>
    intro k hk z
    have h1 : ¬ (k : Int) < 4 := by omega
    exact ⟨_, Evl.of (by rw [h112b0a, g112b0a]; simp [h1]), .inr ⟨z, rfl⟩⟩
  | succ m ih =>
    intro k hk z
    obtain ⟨j, hj⟩ : ∃ j, j = i + k := ⟨_, rfl⟩
    obtain ⟨k', hk'⟩ : ∃ k', k' = k + 1 := ⟨_, rfl⟩
    have h1 : (k : Int) < 4 := by omega
    have e1 := wtwo hj (by omega)
    have e2 := wone hk' (by omega)
    have hx := fun (k : AV → Res) => indS (d := Res.fail) (k := k) (s := b) (i := j) (by omega)
    by_cases h2 : byt b j < 128
    · exact ⟨_, Evl.of (by rw [h112b0a, g112b0a]; simp [h1, e1, hx, wby, h2]), .inl rfl⟩
    · by_cases h3 : 191 < byt b j
      · exact ⟨_, Evl.of (by rw [h112b0a, g112b0a]; simp [h1, e1, hx, wby, h2, h3]), .inl rfl⟩
      · obtain ⟨r, hr, hr'⟩ := ih k' (by omega) (IntKind.i64.wrap (IntKind.i64.wrap (IntKind.i64.wrap (64 * z) + byt b j) - 128))
        exact ⟨r, Evl.of (by rw [h112b0a, g112b0a]; simp [h1, e1, e2, hx, wby, h2, h3, hr]), hr'⟩
theorem utf_b (b : ByteArray) (i : Nat) (hb : b.size ≤ 1000000) (hi : i + 3 ≤ b.size) : ∀ (m k : Nat), k + m = 3 → ∀ z : Int, ∃ r, ev (q112b0b (iv k) (sv b) (iv i) (iv z)) = some r ∧ (r = (0, [iv 0]) ∨ ∃ y : Int, r = (1, [iv y, iv 2048, iv 3])) := by
  intro m
  induction m with
  | zero =>
    intro k hk z
    have h1 : ¬ (k : Int) < 3 := by omega
    exact ⟨_, Evl.of (by rw [h112b0b, g112b0b]; simp [h1]), .inr ⟨z, rfl⟩⟩
  | succ m ih =>
    intro k hk z
    obtain ⟨j, hj⟩ : ∃ j, j = i + k := ⟨_, rfl⟩
    obtain ⟨k', hk'⟩ : ∃ k', k' = k + 1 := ⟨_, rfl⟩
    have h1 : (k : Int) < 3 := by omega
    have e1 := wtwo hj (by omega)
    have e2 := wone hk' (by omega)
    have hx := fun (k : AV → Res) => indS (d := Res.fail) (k := k) (s := b) (i := j) (by omega)
    by_cases h2 : byt b j < 128
    · exact ⟨_, Evl.of (by rw [h112b0b, g112b0b]; simp [h1, e1, hx, wby, h2]), .inl rfl⟩
    · by_cases h3 : 191 < byt b j
      · exact ⟨_, Evl.of (by rw [h112b0b, g112b0b]; simp [h1, e1, hx, wby, h2, h3]), .inl rfl⟩
      · obtain ⟨r, hr, hr'⟩ := ih k' (by omega) (IntKind.i64.wrap (IntKind.i64.wrap (IntKind.i64.wrap (64 * z) + byt b j) - 128))
        exact ⟨r, Evl.of (by rw [h112b0b, g112b0b]; simp [h1, e1, e2, hx, wby, h2, h3, hr]), hr'⟩
theorem utf_c (b : ByteArray) (i : Nat) (hb : b.size ≤ 1000000) (hi : i + 2 ≤ b.size) : ∀ (m k : Nat), k + m = 2 → ∀ z : Int, ∃ r, ev (q112b0c (iv k) (sv b) (iv i) (iv z)) = some r ∧ (r = (0, [iv 0]) ∨ ∃ y : Int, r = (1, [iv y, iv 128, iv 2])) := by
  intro m
  induction m with
  | zero =>
    intro k hk z
    have h1 : ¬ (k : Int) < 2 := by omega
    exact ⟨_, Evl.of (by rw [h112b0c, g112b0c]; simp [h1]), .inr ⟨z, rfl⟩⟩
  | succ m ih =>
    intro k hk z
    obtain ⟨j, hj⟩ : ∃ j, j = i + k := ⟨_, rfl⟩
    obtain ⟨k', hk'⟩ : ∃ k', k' = k + 1 := ⟨_, rfl⟩
    have h1 : (k : Int) < 2 := by omega
    have e1 := wtwo hj (by omega)
    have e2 := wone hk' (by omega)
    have hx := fun (k : AV → Res) => indS (d := Res.fail) (k := k) (s := b) (i := j) (by omega)
    by_cases h2 : byt b j < 128
    · exact ⟨_, Evl.of (by rw [h112b0c, g112b0c]; simp [h1, e1, hx, wby, h2]), .inl rfl⟩
    · by_cases h3 : 191 < byt b j
      · exact ⟨_, Evl.of (by rw [h112b0c, g112b0c]; simp [h1, e1, hx, wby, h2, h3]), .inl rfl⟩
      · obtain ⟨r, hr, hr'⟩ := ih k' (by omega) (IntKind.i64.wrap (IntKind.i64.wrap (IntKind.i64.wrap (64 * z) + byt b j) - 128))
        exact ⟨r, Evl.of (by rw [h112b0c, g112b0c]; simp [h1, e1, e2, hx, wby, h2, h3, hr]), hr'⟩
theorem utf_ok (b : ByteArray) (i : Nat) (hb : b.size ≤ 1000000) (hi : i < b.size) : ∃ n : Nat, ev (q112 (sv b) (iv i)) = some (0, [iv n]) ∧ i + n ≤ b.size := by
  have hx := fun (k : AV → Res) => indS (d := Res.fail) (k := k) hi
  have hr := byt_range b i
  by_cases h1 : byt b i < 128
  · exact ⟨1, Evl.of (by rw [h112, g112]; simp [hx, wby, h1]), by omega⟩
  by_cases h2 : 192 ≤ byt b i
  · by_cases h3 : byt b i < 224
    · have h4 : ¬ 224 ≤ byt b i := by omega
      have h5 : ¬ 240 ≤ byt b i := by omega
      obtain ⟨j, hj⟩ : ∃ j, j = i + 2 := ⟨_, rfl⟩
      have e1 : IntKind.i64.wrap ((i : Int) + 2) = (j : Int) := by rw [wrap_id (by omega)]; omega
      by_cases hs : (b.size : Int) < (j : Int)
      · exact ⟨0, Evl.of (by rw [h112, g112]; simp [hx, wby, h1, h2, h3, h4, h5, e1, hs]), by omega⟩
      · obtain ⟨r, g, g1 | ⟨y, g1⟩⟩ := utf_c b i hb (by omega) 1 1 rfl (IntKind.i64.wrap (byt b i - 192))
        · rw [g1] at g
          have g : ev (q112b0c (iv 1) (sv b) (iv i) (iv (IntKind.i64.wrap (byt b i - 192)))) = _ := g
          exact ⟨0, Evl.of (by rw [h112, g112]; simp [hx, wby, h1, h2, h3, h4, h5, e1, hs]; simp [g]), by omega⟩
        · rw [g1] at g
          have g : ev (q112b0c (iv 1) (sv b) (iv i) (iv (IntKind.i64.wrap (byt b i - 192)))) = _ := g
          by_cases k1 : y < 128
          · exact ⟨0, Evl.of (by rw [h112, g112]; simp [hx, wby, h1, h2, h3, h4, h5, e1, hs]; simp [g, k1]), by omega⟩
          · by_cases k2 : 1114111 < y
            · exact ⟨0, Evl.of (by rw [h112, g112]; simp [hx, wby, h1, h2, h3, h4, h5, e1, hs]; simp [g, k1, k2]), by omega⟩
            · by_cases k3 : 55296 ≤ y
              · by_cases k4 : y ≤ 57343
                · exact ⟨0, Evl.of (by rw [h112, g112]; simp [hx, wby, h1, h2, h3, h4, h5, e1, hs]; simp [g, k1, k2, k3, k4]), by omega⟩
                · exact ⟨2, Evl.of (by rw [h112, g112]; simp [hx, wby, h1, h2, h3, h4, h5, e1, hs]; simp [g, k1, k2, k3, k4]), by omega⟩
              · exact ⟨2, Evl.of (by rw [h112, g112]; simp [hx, wby, h1, h2, h3, h4, h5, e1, hs]; simp [g, k1, k2, k3]), by omega⟩
    · have h4 : 224 ≤ byt b i := by omega
      by_cases h5 : byt b i < 240
      · have h6 : ¬ 240 ≤ byt b i := by omega
        obtain ⟨j, hj⟩ : ∃ j, j = i + 3 := ⟨_, rfl⟩
        have e1 : IntKind.i64.wrap ((i : Int) + 3) = (j : Int) := by rw [wrap_id (by omega)]; omega
        by_cases hs : (b.size : Int) < (j : Int)
        · exact ⟨0, Evl.of (by rw [h112, g112]; simp [hx, wby, h1, h2, h3, h4, h5, h6, e1, hs]), by omega⟩
        · obtain ⟨r, g, g1 | ⟨y, g1⟩⟩ := utf_b b i hb (by omega) 2 1 rfl (IntKind.i64.wrap (byt b i - 224))
          · rw [g1] at g
            have g : ev (q112b0b (iv 1) (sv b) (iv i) (iv (IntKind.i64.wrap (byt b i - 224)))) = _ := g
            exact ⟨0, Evl.of (by rw [h112, g112]; simp [hx, wby, h1, h2, h3, h4, h5, h6, e1, hs]; simp [g]), by omega⟩
          · rw [g1] at g
            have g : ev (q112b0b (iv 1) (sv b) (iv i) (iv (IntKind.i64.wrap (byt b i - 224)))) = _ := g
            by_cases k1 : y < 2048
            · exact ⟨0, Evl.of (by rw [h112, g112]; simp [hx, wby, h1, h2, h3, h4, h5, h6, e1, hs]; simp [g, k1]), by omega⟩
            · by_cases k2 : 1114111 < y
              · exact ⟨0, Evl.of (by rw [h112, g112]; simp [hx, wby, h1, h2, h3, h4, h5, h6, e1, hs]; simp [g, k1, k2]), by omega⟩
              · by_cases k3 : 55296 ≤ y
                · by_cases k4 : y ≤ 57343
                  · exact ⟨0, Evl.of (by rw [h112, g112]; simp [hx, wby, h1, h2, h3, h4, h5, h6, e1, hs]; simp [g, k1, k2, k3, k4]), by omega⟩
                  · exact ⟨3, Evl.of (by rw [h112, g112]; simp [hx, wby, h1, h2, h3, h4, h5, h6, e1, hs]; simp [g, k1, k2, k3, k4]), by omega⟩
                · exact ⟨3, Evl.of (by rw [h112, g112]; simp [hx, wby, h1, h2, h3, h4, h5, h6, e1, hs]; simp [g, k1, k2, k3]), by omega⟩
      · have h6 : 240 ≤ byt b i := by omega
        by_cases h7 : byt b i < 248
        · skip
          obtain ⟨j, hj⟩ : ∃ j, j = i + 4 := ⟨_, rfl⟩
          have e1 : IntKind.i64.wrap ((i : Int) + 4) = (j : Int) := by rw [wrap_id (by omega)]; omega
          by_cases hs : (b.size : Int) < (j : Int)
          · exact ⟨0, Evl.of (by rw [h112, g112]; simp [hx, wby, h1, h2, h3, h4, h5, h6, h7, e1, hs]), by omega⟩
          · obtain ⟨r, g, g1 | ⟨y, g1⟩⟩ := utf_a b i hb (by omega) 3 1 rfl (IntKind.i64.wrap (byt b i - 240))
            · rw [g1] at g
              have g : ev (q112b0a (iv 1) (sv b) (iv i) (iv (IntKind.i64.wrap (byt b i - 240)))) = _ := g
              exact ⟨0, Evl.of (by rw [h112, g112]; simp [hx, wby, h1, h2, h3, h4, h5, h6, h7, e1, hs]; simp [g]), by omega⟩
            · rw [g1] at g
              have g : ev (q112b0a (iv 1) (sv b) (iv i) (iv (IntKind.i64.wrap (byt b i - 240)))) = _ := g
              by_cases k1 : y < 65536
              · exact ⟨0, Evl.of (by rw [h112, g112]; simp [hx, wby, h1, h2, h3, h4, h5, h6, h7, e1, hs]; simp [g, k1]), by omega⟩
              · by_cases k2 : 1114111 < y
                · exact ⟨0, Evl.of (by rw [h112, g112]; simp [hx, wby, h1, h2, h3, h4, h5, h6, h7, e1, hs]; simp [g, k1, k2]), by omega⟩
                · by_cases k3 : 55296 ≤ y
                  · by_cases k4 : y ≤ 57343
                    · exact ⟨0, Evl.of (by rw [h112, g112]; simp [hx, wby, h1, h2, h3, h4, h5, h6, h7, e1, hs]; simp [g, k1, k2, k3, k4]), by omega⟩
                    · exact ⟨4, Evl.of (by rw [h112, g112]; simp [hx, wby, h1, h2, h3, h4, h5, h6, h7, e1, hs]; simp [g, k1, k2, k3, k4]), by omega⟩
                  · exact ⟨4, Evl.of (by rw [h112, g112]; simp [hx, wby, h1, h2, h3, h4, h5, h6, h7, e1, hs]; simp [g, k1, k2, k3]), by omega⟩
        · exact ⟨0, Evl.of (by rw [h112, g112]; simp [hx, wby, h1, h2, h3, h4, h5, h6, h7]), by omega⟩
  · have h3 : ¬ 224 ≤ byt b i := by omega
    have h4 : ¬ 240 ≤ byt b i := by omega
    exact ⟨0, Evl.of (by rw [h112, g112]; simp [hx, wby, h1, h2, h3, h4]), by omega⟩
theorem bad_l (b : ByteArray) (hb : b.size ≤ 1000000) : ∀ (m i : Nat), b.size - i ≤ m → (∃ z : Int, ev (q83b0a (iv i) (sv b)) = some (0, [iv z])) ∨ ev (q83b0a (iv i) (sv b)) = some (1, []) := by
  intro m
  induction m with
  | zero =>
    intro i hi
    exact .inr (Evl.of (by rw [h83b0a, g83b0a]; simp [show ¬ (i : Int) < (b.size : Int) by omega]))
  | succ m ih =>
    intro i hi
    by_cases h1 : i < b.size
    · have h1' : (i : Int) < (b.size : Int) := by omega
      obtain ⟨n, g, hn⟩ := utf_ok b i hb h1
      by_cases h0 : n = 0
      · subst h0
        exact .inl ⟨i, Evl.of (by rw [h83b0a, g83b0a]; simp [h1']; simp [g])⟩
      · obtain ⟨j, hj⟩ : ∃ j, j = i + n := ⟨_, rfl⟩
        have e1 := wtwo hj (by omega)
        have h0' : ¬ (n : Int) = 0 := by omega
        rcases ih j (by omega) with ⟨z, hz⟩ | hz
        · exact .inl ⟨z, Evl.of (by rw [h83b0a, g83b0a]; simp [h1']; simp [g, h0]; simp [e1, hz])⟩
        · exact .inr (Evl.of (by rw [h83b0a, g83b0a]; simp [h1']; simp [g, h0]; simp [e1, hz]))
    · exact .inr (Evl.of (by rw [h83b0a, g83b0a]; simp [show ¬ (i : Int) < (b.size : Int) by omega]))
theorem bad_ok (b : ByteArray) (hb : b.size ≤ 1000000) : ∃ z : Int, ev (q83 (sv b)) = some (0, [iv z]) := by
  rcases bad_l b hb b.size 0 (by omega) with ⟨z, hz⟩ | hz
  · have hz : ev (q83b0a (iv 0) (sv b)) = _ := hz
    exact ⟨z, Evl.of (by rw [h83, g83]; simp [hz])⟩
  · have hz : ev (q83b0a (iv 0) (sv b)) = _ := hz
    exact ⟨-1, Evl.of (by rw [h83, g83]; simp [hz])⟩

end Go.Proofs.YtijcobeebaceoaaGreatDoor
namespace Go.Proofs.YtijcobeebaceoaaGreatDoor
open Go.RowKit
set_option linter.unusedSimpArgs false
set_option linter.unusedVariables false
set_option linter.unusedSectionVars false

/-- A question's answer. -/
noncomputable def bo (q : Q) : Bool := @decide (ev q = some (0, [bv true])) (Classical.propDecidable _)
theorem bo_of {q : Q} (h : ∃ c : Bool, ev q = some (0, [bv c])) : ev q = some (0, [bv (bo q)]) := by
  obtain ⟨c, h⟩ := h
  unfold bo
  cases c with
  | true => simp [h]
  | false =>
    have hn : ¬ ev q = some (0, [bv true]) := by rw [h]; simp
    simp [hn, h]
theorem bo_body {q : Q} (h : ∃ c : Bool, body PG EE TT ev q = .ok (0, [bv c])) : ev q = some (0, [bv (bo q)]) := bo_of (h.imp fun _ h => Evl.of h)
def BoG (r : Res) : Prop := ∃ c : Bool, r = .ok (0, [bv c])
theorem BoG.ok (c : Bool) : BoG (.ok (0, [bv c])) := ⟨c, rfl⟩
theorem BoG.bK {b : Bool} {x y : Res} (h1 : BoG x) (h2 : BoG y) : BoG (bK b x y) := by cases b <;> assumption
theorem BoG.ite {p : Prop} [Decidable p] {x y : Res} (h1 : BoG x) (h2 : BoG y) : BoG (if p then x else y) := by split <;> assumption
theorem blank_m (n : Int) : ev (q113 (cv n)) = some (0, [bv (bo (q113 (cv n)))]) := bo_body (show BoG _ by
  rw [h113, g113]
  simp
  repeat (first | exact .ok _ | refine .ite ?_ ?_ | refine .bK ?_ ?_))
theorem digit_m (n : Int) : ev (q115 (cv n)) = some (0, [bv (bo (q115 (cv n)))]) := bo_body (show BoG _ by
  rw [h115, g115]
  simp
  repeat (first | exact .ok _ | refine .ite ?_ ?_ | refine .bK ?_ ?_))
theorem small_m (n : Int) : ev (q118 (cv n)) = some (0, [bv (bo (q118 (cv n)))]) := bo_body (show BoG _ by
  rw [h118, g118]
  simp
  repeat (first | exact .ok _ | refine .ite ?_ ?_ | refine .bK ?_ ?_))
theorem great_m (n : Int) : ev (q119 (cv n)) = some (0, [bv (bo (q119 (cv n)))]) := bo_body (show BoG _ by
  rw [h119, g119]
  simp
  repeat (first | exact .ok _ | refine .ite ?_ ?_ | refine .bK ?_ ?_))
theorem in_l (t : ByteArray) (n : Int) (ht : t.size ≤ 1000000) : ∀ (m i : Nat), t.size - i ≤ m → (∃ c : Bool, ev (q142b0a (iv i) (sv t) (cv n)) = some (0, [bv c])) ∨ ev (q142b0a (iv i) (sv t) (cv n)) = some (1, []) := by
  intro m
  induction m with
  | zero => exact fun i hi => .inr (Evl.of (by rw [h142b0a, g142b0a]; simp [show ¬ (i : Int) < (t.size : Int) by omega]))
  | succ m ih =>
    intro i hi
    by_cases h1 : i < t.size
    · have h1' : (i : Int) < (t.size : Int) := by omega
      have hx := fun (k : AV → Res) => indS (d := Res.fail) (k := k) h1
      obtain ⟨j, hj⟩ : ∃ j, j = i + 1 := ⟨_, rfl⟩
      have e1 := wone hj (by omega)
      by_cases h2 : byt t i = n
      · exact .inl ⟨true, Evl.of (by rw [h142b0a, g142b0a]; simp [h1', hx, h2])⟩
      · rcases ih j (by omega) with ⟨c, hc⟩ | hc
        · exact .inl ⟨c, Evl.of (by rw [h142b0a, g142b0a]; simp [h1', hx, h2, e1, hc])⟩
        · exact .inr (Evl.of (by rw [h142b0a, g142b0a]; simp [h1', hx, h2, e1, hc]))
    · exact .inr (Evl.of (by rw [h142b0a, g142b0a]; simp [show ¬ (i : Int) < (t.size : Int) by omega]))
theorem in_m (t : ByteArray) (n : Int) (ht : t.size ≤ 1000000) : ev (q142 (sv t) (cv n)) = some (0, [bv (bo (q142 (sv t) (cv n)))]) := bo_of (by
  rcases in_l t n ht t.size 0 (by omega) with ⟨c, hc⟩ | hc
  · have hc : ev (q142b0a (iv 0) (sv t) (cv n)) = _ := hc
    exact ⟨c, Evl.of (by rw [h142, g142]; cases c <;> simp [hc])⟩
  · have hc : ev (q142b0a (iv 0) (sv t) (cv n)) = _ := hc
    exact ⟨false, Evl.of (by rw [h142, g142]; simp [hc])⟩)
theorem sign_m (n : Int) : ev (q120 (cv n)) = some (0, [bv (bo (q120 (cv n)))]) := bo_body (show BoG _ by
  have f := in_m ⟨#[33, 36, 37, 38, 42, 43, 46, 47, 60, 61, 62, 63, 64, 94, 124, 126, 58, 45]⟩ n (by decide)
  rw [h120, g120]
  simp [f]
  repeat (first | exact .ok _ | refine .ite ?_ ?_ | refine .bK ?_ ?_))
theorem name_m (n : Int) : ev (q143 (cv n)) = some (0, [bv (bo (q143 (cv n)))]) := bo_body (show BoG _ by
  rw [h143, g143]
  simp [small_m, great_m, digit_m]
  repeat (first | exact .ok _ | refine .ite ?_ ?_ | refine .bK ?_ ?_))
theorem name_small (n : Int) (h : bo (q118 (cv n)) = true) : bo (q143 (cv n)) = true := by
  have e : ev (q143 (cv n)) = some (0, [bv true]) := Evl.of (by rw [h143, g143]; simp [small_m, h])
  rw [name_m] at e
  simpa using e
theorem name_great (n : Int) (h : bo (q119 (cv n)) = true) : bo (q143 (cv n)) = true := by
  have e : ev (q143 (cv n)) = some (0, [bv true]) := Evl.of (by rw [h143, g143]; simp [small_m, great_m, h])
  rw [name_m] at e
  simpa using e
theorem among_l (x : ByteArray) (l : List ByteArray) (hl : l.length ≤ 1000000) : ∀ (m i : Nat), l.length - i ≤ m → (∃ c : Bool, ev (q145b0a (iv i) (strs l) (sv x)) = some (0, [bv c])) ∨ ev (q145b0a (iv i) (strs l) (sv x)) = some (1, []) := by
  intro m
  induction m with
  | zero => exact fun i hi => .inr (Evl.of (by rw [h145b0a, g145b0a]; simp [show ¬ (i : Int) < (l.length : Int) by omega]))
  | succ m ih =>
    intro i hi
    by_cases h1 : i < l.length
    · have h1' : (i : Int) < (l.length : Int) := by omega
      have hx := fun (k : AV → Res) => idxK_strs (d := Res.fail) (k := k) (List.getElem?_eq_getElem h1)
      obtain ⟨j, hj⟩ : ∃ j, j = i + 1 := ⟨_, rfl⟩
      have e1 := wone hj (by omega)
      by_cases h2 : l[i] = x
      · exact .inl ⟨true, Evl.of (by rw [h145b0a, g145b0a]; simp [h1', hx, h2])⟩
      · rcases ih j (by omega) with ⟨c, hc⟩ | hc
        · exact .inl ⟨c, Evl.of (by rw [h145b0a, g145b0a]; simp [h1', hx, h2, e1, hc])⟩
        · exact .inr (Evl.of (by rw [h145b0a, g145b0a]; simp [h1', hx, h2, e1, hc]))
    · exact .inr (Evl.of (by rw [h145b0a, g145b0a]; simp [show ¬ (i : Int) < (l.length : Int) by omega]))
theorem among_m (x : ByteArray) (l : List ByteArray) (hl : l.length ≤ 1000000) : ev (q145 (sv x) (strs l)) = some (0, [bv (bo (q145 (sv x) (strs l)))]) := bo_of (by
  rcases among_l x l hl l.length 0 (by omega) with ⟨c, hc⟩ | hc
  · have hc : ev (q145b0a (iv 0) (strs l) (sv x)) = _ := hc
    exact ⟨c, Evl.of (by rw [h145, g145]; cases c <;> simp [hc])⟩
  · have hc : ev (q145b0a (iv 0) (strs l) (sv x)) = _ := hc
    exact ⟨false, Evl.of (by rw [h145, g145]; simp [hc])⟩)
theorem mark_m (x : ByteArray) : ev (q121 (sv x)) = some (0, [bv (bo (q121 (sv x)))]) := bo_body (show BoG _ by
  have f := among_m x [⟨#[40]⟩, ⟨#[41]⟩, ⟨#[44]⟩, ⟨#[59]⟩, ⟨#[92]⟩, ⟨#[95]⟩, ⟨#[61]⟩, ⟨#[45, 62]⟩, ⟨#[124]⟩, ⟨#[58]⟩] (by decide)
  simp only [strs, List.map_cons, List.map_nil] at f
  rw [h121, g121]
  simp [f]
  repeat (first | exact .ok _ | refine .ite ?_ ?_ | refine .bK ?_ ?_))
theorem key_m (x : ByteArray) : ev (q122 (sv x)) = some (0, [bv (bo (q122 (sv x)))]) := bo_body (show BoG _ by
  have f := among_m x [⟨#[100, 97, 116, 97]⟩, ⟨#[99, 108, 97, 115, 115]⟩, ⟨#[105, 110, 115, 116, 97, 110, 99, 101]⟩, ⟨#[102, 114, 111, 109]⟩, ⟨#[119, 104, 101, 114, 101]⟩, ⟨#[101, 110, 100]⟩, ⟨#[100, 101, 114, 105, 118, 105, 110, 103]⟩, ⟨#[100, 101, 102]⟩, ⟨#[108, 101, 116]⟩, ⟨#[114, 101, 99]⟩, ⟨#[97, 110, 100]⟩, ⟨#[105, 110]⟩, ⟨#[99, 97, 115, 101]⟩, ⟨#[111, 102]⟩, ⟨#[105, 102]⟩, ⟨#[116, 104, 101, 110]⟩, ⟨#[101, 108, 115, 101]⟩] (by decide)
  simp only [strs, List.map_cons, List.map_nil] at f
  rw [h122, g122]
  simp [f]
  repeat (first | exact .ok _ | refine .ite ?_ ?_ | refine .bK ?_ ?_))
/-! What lies between the tokens. -/
theorem over_r (b : ByteArray) (hb : b.size ≤ 1000000) : ∀ (m i : Nat), b.size - i ≤ m → i ≤ b.size → ∃ j : Nat, ev (q84b2a (iv i) (sv b)) = some (0, [iv j, sv b]) ∧ i ≤ j ∧ j ≤ b.size := by
  intro m
  induction m with
  | zero => exact fun i hi hl => ⟨i, Evl.of (by rw [h84b2a, g84b2a]; simp [show ¬ (i : Int) < (b.size : Int) by omega]), by omega, by omega⟩
  | succ m ih =>
    intro i hi hl
    by_cases h1 : i < b.size
    · have h1' : (i : Int) < (b.size : Int) := by omega
      have hx := fun (k : AV → Res) => indS (d := Res.fail) (k := k) h1
      obtain ⟨j, hj⟩ : ∃ j, j = i + 1 := ⟨_, rfl⟩
      have e1 := wone hj (by omega)
      by_cases h2 : byt b i = 10
      · exact ⟨i, Evl.of (by rw [h84b2a, g84b2a]; simp [h1', hx, h2]), by omega, by omega⟩
      · obtain ⟨z, g, g1, g2⟩ := ih j (by omega) (by omega)
        exact ⟨z, Evl.of (by rw [h84b2a, g84b2a]; simp [h1', hx, h2, e1, g]), by omega, by omega⟩
    · exact ⟨i, Evl.of (by rw [h84b2a, g84b2a]; simp [show ¬ (i : Int) < (b.size : Int) by omega]), by omega, by omega⟩
theorem over_l (b : ByteArray) (hb : b.size ≤ 1000000) : ∀ (m i : Nat), b.size - i ≤ m → i ≤ b.size → ∃ j : Nat, ev (q84b0a (iv i) (sv b)) = some (0, [iv j]) ∧ i ≤ j ∧ j ≤ b.size := by
  intro m
  induction m with
  | zero => exact fun i hi hl => ⟨i, Evl.of (by rw [h84b0a, g84b0a]; simp [show ¬ (i : Int) < (b.size : Int) by omega]), by omega, by omega⟩
  | succ m ih =>
    intro i hi hl
    by_cases h1 : i < b.size
    · have h1' : (i : Int) < (b.size : Int) := by omega
      have hx := fun (k : AV → Res) => indS (d := Res.fail) (k := k) h1
      by_cases h2 : byt b i = 35
      · -- a remark
        have hx1 : (byt b i ≠ 10) := by omega
        obtain ⟨j, hj⟩ : ∃ j, j = i + 1 := ⟨_, rfl⟩
        have e1 := wone hj (by omega)
        obtain ⟨z, g, g1, g2⟩ := over_r b hb m j (by omega) (by omega)
        have gi : ev (q84b2a (iv i) (sv b)) = some (0, [iv z, sv b]) := Evl.of (by rw [h84b2a, g84b2a]; simp [h1', hx, hx1, e1, g])
        obtain ⟨y, f, f1, f2⟩ := ih z (by omega) (by omega)
        refine ⟨y, Evl.of ?_, by omega, by omega⟩
        rw [h84b0a, g84b0a]
        have hb0 := blank_m (byt b i)
        rw [h2] at hb0
        cases hc : bo (q113 (cv 35)) with
        | true => rw [hc] at hb0; simp [h1', hx, h2, hb0, gi, f]
        | false => rw [hc] at hb0; simp [h1', hx, h2, hb0, gi, f]
      · have hb0 := blank_m (byt b i)
        cases hc : bo (q113 (cv (byt b i))) with
        | true =>
          obtain ⟨j, hj⟩ : ∃ j, j = i + 1 := ⟨_, rfl⟩
          have e1 := wone hj (by omega)
          obtain ⟨y, f, f1, f2⟩ := ih j (by omega) (by omega)
          exact ⟨y, Evl.of (by rw [h84b0a, g84b0a]; rw [hc] at hb0; simp [h1', hx, h2, hb0, e1, f]), by omega, by omega⟩
        | false => exact ⟨i, Evl.of (by rw [h84b0a, g84b0a]; rw [hc] at hb0; simp [h1', hx, h2, hb0]), by omega, by omega⟩
    · exact ⟨i, Evl.of (by rw [h84b0a, g84b0a]; simp [show ¬ (i : Int) < (b.size : Int) by omega]), by omega, by omega⟩
theorem over_ok (b : ByteArray) (hb : b.size ≤ 1000000) (i : Nat) (hi : i ≤ b.size) : ∃ j : Nat, ev (q84 (sv b) (iv i)) = some (0, [iv j]) ∧ i ≤ j ∧ j ≤ b.size := by
  obtain ⟨j, g, g1, g2⟩ := over_l b hb _ i (Nat.le_refl _) hi
  exact ⟨j, Evl.of (by rw [h84, g84]; simp [g]), g1, g2⟩
/-! Where a word ends. -/
theorem end_ln (b : ByteArray) (hb : b.size ≤ 1000000) : ∀ (m i : Nat), b.size - i ≤ m → i ≤ b.size → ∃ j : Nat, ev (q116b0a (iv i) (sv b) (iv 1)) = some (0, [iv j]) ∧ i ≤ j ∧ j ≤ b.size ∧ (i < b.size → bo (q143 (cv (byt b i))) = true → i < j) := by
  intro m
  induction m with
  | zero => exact fun i hi hl => ⟨i, Evl.of (by rw [h116b0a, g116b0a]; simp [show ¬ (i : Int) < (b.size : Int) by omega]), by omega, by omega, fun h => by omega⟩
  | succ m ih =>
    intro i hi hl
    by_cases h1 : i < b.size
    · have h1' : (i : Int) < (b.size : Int) := by omega
      have hx := fun (k : AV → Res) => indS (d := Res.fail) (k := k) h1
      have hb0 := name_m (byt b i)
      cases hc : bo (q143 (cv (byt b i))) with
      | true =>
        obtain ⟨j, hj⟩ : ∃ j, j = i + 1 := ⟨_, rfl⟩
        have e1 := wone hj (by omega)
        obtain ⟨y, f, f1, f2, f3⟩ := ih j (by omega) (by omega)
        exact ⟨y, Evl.of (by rw [h116b0a, g116b0a]; rw [hc] at hb0; simp [h1', hx]; simp [hb0]; simp [e1, f]), by omega, by omega, fun _ _ => by omega⟩
      | false => exact ⟨i, Evl.of (by rw [h116b0a, g116b0a]; rw [hc] at hb0; simp [h1', hx]; simp [hb0]), by omega, by omega, fun _ h => by simp at h⟩
    · exact ⟨i, Evl.of (by rw [h116b0a, g116b0a]; simp [show ¬ (i : Int) < (b.size : Int) by omega]), by omega, by omega, fun h => by omega⟩
theorem end_n (b : ByteArray) (hb : b.size ≤ 1000000) (i : Nat) (hi : i < b.size) (hc : bo (q143 (cv (byt b i))) = true) : ∃ j : Nat, ev (q116 (sv b) (iv i) (iv 1)) = some (0, [iv j]) ∧ i < j ∧ j ≤ b.size := by
  obtain ⟨j, g, g1, g2, g3⟩ := end_ln b hb _ i (Nat.le_refl _) (by omega)
  exact ⟨j, Evl.of (by rw [h116, g116]; simp [g]), g3 hi hc, g2⟩
theorem end_ld (b : ByteArray) (hb : b.size ≤ 1000000) : ∀ (m i : Nat), b.size - i ≤ m → i ≤ b.size → ∃ j : Nat, ev (q116b0a (iv i) (sv b) (iv 2)) = some (0, [iv j]) ∧ i ≤ j ∧ j ≤ b.size ∧ (i < b.size → bo (q115 (cv (byt b i))) = true → i < j) := by
  intro m
  induction m with
  | zero => exact fun i hi hl => ⟨i, Evl.of (by rw [h116b0a, g116b0a]; simp [show ¬ (i : Int) < (b.size : Int) by omega]), by omega, by omega, fun h => by omega⟩
  | succ m ih =>
    intro i hi hl
    by_cases h1 : i < b.size
    · have h1' : (i : Int) < (b.size : Int) := by omega
      have hx := fun (k : AV → Res) => indS (d := Res.fail) (k := k) h1
      have hb0 := digit_m (byt b i)
      cases hc : bo (q115 (cv (byt b i))) with
      | true =>
        obtain ⟨j, hj⟩ : ∃ j, j = i + 1 := ⟨_, rfl⟩
        have e1 := wone hj (by omega)
        obtain ⟨y, f, f1, f2, f3⟩ := ih j (by omega) (by omega)
        exact ⟨y, Evl.of (by rw [h116b0a, g116b0a]; rw [hc] at hb0; simp [h1', hx]; simp [hb0]; simp [e1, f]), by omega, by omega, fun _ _ => by omega⟩
      | false => exact ⟨i, Evl.of (by rw [h116b0a, g116b0a]; rw [hc] at hb0; simp [h1', hx]; simp [hb0]), by omega, by omega, fun _ h => by simp at h⟩
    · exact ⟨i, Evl.of (by rw [h116b0a, g116b0a]; simp [show ¬ (i : Int) < (b.size : Int) by omega]), by omega, by omega, fun h => by omega⟩
theorem end_d (b : ByteArray) (hb : b.size ≤ 1000000) (i : Nat) (hi : i < b.size) (hc : bo (q115 (cv (byt b i))) = true) : ∃ j : Nat, ev (q116 (sv b) (iv i) (iv 2)) = some (0, [iv j]) ∧ i < j ∧ j ≤ b.size := by
  obtain ⟨j, g, g1, g2, g3⟩ := end_ld b hb _ i (Nat.le_refl _) (by omega)
  exact ⟨j, Evl.of (by rw [h116, g116]; simp [g]), g3 hi hc, g2⟩
theorem end_ls (b : ByteArray) (hb : b.size ≤ 1000000) : ∀ (m i : Nat), b.size - i ≤ m → i ≤ b.size → ∃ j : Nat, ev (q116b0a (iv i) (sv b) (iv 3)) = some (0, [iv j]) ∧ i ≤ j ∧ j ≤ b.size ∧ (i < b.size → bo (q120 (cv (byt b i))) = true → i < j) := by
  intro m
  induction m with
  | zero => exact fun i hi hl => ⟨i, Evl.of (by rw [h116b0a, g116b0a]; simp [show ¬ (i : Int) < (b.size : Int) by omega]), by omega, by omega, fun h => by omega⟩
  | succ m ih =>
    intro i hi hl
    by_cases h1 : i < b.size
    · have h1' : (i : Int) < (b.size : Int) := by omega
      have hx := fun (k : AV → Res) => indS (d := Res.fail) (k := k) h1
      have hb0 := sign_m (byt b i)
      cases hc : bo (q120 (cv (byt b i))) with
      | true =>
        obtain ⟨j, hj⟩ : ∃ j, j = i + 1 := ⟨_, rfl⟩
        have e1 := wone hj (by omega)
        obtain ⟨y, f, f1, f2, f3⟩ := ih j (by omega) (by omega)
        exact ⟨y, Evl.of (by rw [h116b0a, g116b0a]; rw [hc] at hb0; simp [h1', hx]; simp [hb0]; simp [e1, f]), by omega, by omega, fun _ _ => by omega⟩
      | false => exact ⟨i, Evl.of (by rw [h116b0a, g116b0a]; rw [hc] at hb0; simp [h1', hx]; simp [hb0]), by omega, by omega, fun _ h => by simp at h⟩
    · exact ⟨i, Evl.of (by rw [h116b0a, g116b0a]; simp [show ¬ (i : Int) < (b.size : Int) by omega]), by omega, by omega, fun h => by omega⟩
theorem end_s (b : ByteArray) (hb : b.size ≤ 1000000) (i : Nat) (hi : i < b.size) (hc : bo (q120 (cv (byt b i))) = true) : ∃ j : Nat, ev (q116 (sv b) (iv i) (iv 3)) = some (0, [iv j]) ∧ i < j ∧ j ≤ b.size := by
  obtain ⟨j, g, g1, g2, g3⟩ := end_ls b hb _ i (Nat.le_refl _) (by omega)
  exact ⟨j, Evl.of (by rw [h116, g116]; simp [g]), g3 hi hc, g2⟩

end Go.Proofs.YtijcobeebaceoaaGreatDoor
namespace Go.Proofs.YtijcobeebaceoaaGreatDoor
open Go.RowKit
set_option linter.unusedSimpArgs false
set_option linter.unusedVariables false
set_option linter.unusedSectionVars false

def brow (l : List Int) : List (List PV) := l.map fun n => [cv n]
theorem slBy : SlT PG 180 1 1 := SlT.of (by kernel_rfl)
theorem raw_by (l : List Int) : Raw 1 (brow l) (brow l) := .of l (fun x => by simp) (fun x => rfl) (fun x => by simp)
theorem appK_by (l : List Int) (n : Int) (k : PV → Res) (hl : l.length ≤ 3000000) : appK PG .fail 180 (.pv (.rows (brow l))) (.pv (.rows [[cv n]])) k = k (.rows (brow (l ++ [n]))) := by
  rw [appK_raw (P := PG) (d := .fail) slBy (raw_by l) (c := [cv n]) rfl (by simp) (by simp [brow]; omega) (by decide)]
  simp [brow]
theorem convBS (l : List Int) (k : AV → Res) : convK PG .fail 180 9 (.pv (.rows (brow l))) k = k (.pv (sv (strB l))) := convK_bytes uB u8 uS l
/-- How reading a text ends. -/
def TxG (b : ByteArray) (i : Nat) (r : Option Rs) : Prop :=
  r = some (1, []) ∨ (∃ t, ∃ j : Nat, r = some (0, [sv t, iv j, bv true]) ∧ i < j ∧ j ≤ b.size) ∨ r = some (0, [sv eB, iv 0, bv false])
theorem TxG.mono {b : ByteArray} {i j : Nat} {r : Option Rs} (hij : i ≤ j) (h : TxG b j r) : TxG b i r := by
  rcases h with h | ⟨t, k, h, h1, h2⟩ | h
  · exact .inl h
  · exact .inr (.inl ⟨t, k, h, by omega, h2⟩)
  · exact .inr (.inr h)
theorem pass_to {q q' : Q} (h : body PG EE TT ev q = passK (ev q')) {r : Rs} (hr : ev q' = some r) : ev q = some r := Evl.of (by rw [h, hr]; rfl)
theorem TxG.pass {b : ByteArray} {i j : Nat} {q q' : Q} (h : body PG EE TT ev q = passK (ev q')) (hij : i ≤ j) (hg : TxG b j (ev q')) : TxG b i (ev q) := by
  rcases hg with hg | ⟨t, k, hg, h1, h2⟩ | hg
  · exact .inl (pass_to h hg)
  · exact .inr (.inl ⟨t, k, pass_to h hg, by omega, h2⟩)
  · exact .inr (.inr (pass_to h hg))
theorem text_lb (b : ByteArray) (hb : b.size ≤ 1000000) : ∀ (m i : Nat) (l : List Int), b.size - i ≤ m → l.length + m ≤ 2000000 → TxG b i (ev (q114b0b (iv i) (sv b) (brow l))) := by
  intro m
  induction m with
  | zero =>
    intro i l hi hl
    exact .inl (Evl.of (by rw [h114b0b, g114b0b]; simp [show ¬ (i : Int) < (b.size : Int) by omega]))
  | succ m ih =>
    intro i l hi hl
    by_cases h1 : i < b.size
    · have h1' : (i : Int) < (b.size : Int) := by omega
      have hx := fun (k : AV → Res) => indS (d := Res.fail) (k := k) h1
      obtain ⟨j, hj⟩ : ∃ j, j = i + 1 := ⟨_, rfl⟩
      have e1 := wone hj (by omega)
      by_cases h2 : byt b i = 34
      · exact .inr (.inl ⟨strB l, j, Evl.of (by rw [h114b0b, g114b0b]; simp [h1', hx, h2, convBS, e1]), by omega, by omega⟩)
      · by_cases h3 : byt b i = 10
        · exact .inr (.inr (Evl.of (by rw [h114b0b, g114b0b]; simp [h1', hx, h3])))
        · by_cases h4 : byt b i = 92
          · by_cases h5 : (j : Int) = (b.size : Int)
            · exact .inr (.inr (Evl.of (by rw [h114b0b, g114b0b]; simp [h1', hx, h4, e1, h5])))
            · have hy := fun (k : AV → Res) => indS (d := Res.fail) (k := k) (s := b) (i := j) (by omega)
              obtain ⟨z, hz⟩ : ∃ z, z = j + 1 := ⟨_, rfl⟩
              have e2 := wone hz (by omega)
              have hi := in_m ⟨#[110, 116, 34, 92]⟩ (byt b j) (by decide)
              cases hc : bo (q142 (sv ⟨#[110, 116, 34, 92]⟩) (cv (byt b j))) with
              | true =>
                rw [hc] at hi
                by_cases h6 : byt b j = 110
                · refine TxG.pass (q' := q114b0b (iv z) (sv b) (brow (l ++ [10]))) ?_ (by omega) (ih z (l ++ [10]) (by omega) (by simp; omega))
                  rw [h114b0b, g114b0b]
                  simp [h1', hx, h4, e1, h5]
                  rw [h6] at hi
                  simp [hy, hi, h6, e2, appK_by l 10 _ (by omega)]
                  try rfl
                · by_cases h7 : byt b j = 116
                  · refine TxG.pass (q' := q114b0b (iv z) (sv b) (brow (l ++ [9]))) ?_ (by omega) (ih z (l ++ [9]) (by omega) (by simp; omega))
                    rw [h114b0b, g114b0b]
                    simp [h1', hx, h4, e1, h5]
                    rw [h7] at hi
                    simp [hy, hi, h7, e2, appK_by l 9 _ (by omega)]
                    try rfl
                  · refine TxG.pass (q' := q114b0b (iv z) (sv b) (brow (l ++ [byt b j]))) ?_ (by omega) (ih z (l ++ [byt b j]) (by omega) (by simp; omega))
                    rw [h114b0b, g114b0b]
                    simp [h1', hx, h4, e1, h5]
                    simp [hy, hi, h6, h7, e2, appK_by l (byt b j) _ (by omega)]
                    try rfl
              | false =>
                rw [hc] at hi
                exact .inr (.inr (Evl.of (by rw [h114b0b, g114b0b]; simp [h1', hx, h4, e1, h5]; simp [hy, hi])))
          · refine TxG.pass (q' := q114b0b (iv j) (sv b) (brow (l ++ [byt b i]))) ?_ (by omega) (ih j (l ++ [byt b i]) (by omega) (by simp; omega))
            rw [h114b0b, g114b0b]
            simp [h1', hx, h2, h3, h4, e1, appK_by l (byt b i) _ (by omega)]
            try rfl
    · exact .inl (Evl.of (by rw [h114b0b, g114b0b]; simp [show ¬ (i : Int) < (b.size : Int) by omega]))
theorem text_la (b : ByteArray) (hb : b.size ≤ 1000000) : ∀ (m i : Nat), m ≤ 1000001 → b.size - i ≤ m → TxG b i (ev (q114b0a (iv i) (sv b))) := by
  intro m
  intro i hm hi
  cases m with
  | zero => exact .inl (Evl.of (by rw [h114b0a, g114b0a]; simp [show ¬ (i : Int) < (b.size : Int) by omega]))
  | succ m =>
    by_cases h1 : i < b.size
    · have h1' : (i : Int) < (b.size : Int) := by omega
      have hx := fun (k : AV → Res) => indS (d := Res.fail) (k := k) h1
      obtain ⟨j, hj⟩ : ∃ j, j = i + 1 := ⟨_, rfl⟩
      have e1 := wone hj (by omega)
      by_cases h2 : byt b i = 34
      · exact .inr (.inl ⟨eB, j, Evl.of (by rw [h114b0a, g114b0a]; simp [h1', hx, h2, e1]), by omega, by omega⟩)
      · by_cases h3 : byt b i = 10
        · exact .inr (.inr (Evl.of (by rw [h114b0a, g114b0a]; simp [h1', hx, h3])))
        · by_cases h4 : byt b i = 92
          · by_cases h5 : (j : Int) = (b.size : Int)
            · exact .inr (.inr (Evl.of (by rw [h114b0a, g114b0a]; simp [h1', hx, h4, e1, h5])))
            · have hy := fun (k : AV → Res) => indS (d := Res.fail) (k := k) (s := b) (i := j) (by omega)
              obtain ⟨z, hz⟩ : ∃ z, z = j + 1 := ⟨_, rfl⟩
              have e2 := wone hz (by omega)
              have hi := in_m ⟨#[110, 116, 34, 92]⟩ (byt b j) (by decide)
              cases hc : bo (q142 (sv ⟨#[110, 116, 34, 92]⟩) (cv (byt b j))) with
              | true =>
                rw [hc] at hi
                by_cases h6 : byt b j = 110
                · refine TxG.pass (q' := q114b0b (iv z) (sv b) (brow [10])) ?_ (by omega) (text_lb b hb m z [10] (by omega) (by simp; omega))
                  rw [h114b0a, g114b0a]
                  simp [h1', hx, h4, e1, h5]
                  rw [h6] at hi
                  simp [hy, hi, h6, e2]
                  try rfl
                · by_cases h7 : byt b j = 116
                  · refine TxG.pass (q' := q114b0b (iv z) (sv b) (brow [9])) ?_ (by omega) (text_lb b hb m z [9] (by omega) (by simp; omega))
                    rw [h114b0a, g114b0a]
                    simp [h1', hx, h4, e1, h5]
                    rw [h7] at hi
                    simp [hy, hi, h7, e2]
                    try rfl
                  · refine TxG.pass (q' := q114b0b (iv z) (sv b) (brow [byt b j])) ?_ (by omega) (text_lb b hb m z [byt b j] (by omega) (by simp; omega))
                    rw [h114b0a, g114b0a]
                    simp [h1', hx, h4, e1, h5]
                    simp [hy, hi, h6, h7, e2]
                    try rfl
              | false =>
                rw [hc] at hi
                exact .inr (.inr (Evl.of (by rw [h114b0a, g114b0a]; simp [h1', hx, h4, e1, h5]; simp [hy, hi])))
          · refine TxG.pass (q' := q114b0b (iv j) (sv b) (brow [byt b i])) ?_ (by omega) (text_lb b hb m j [byt b i] (by omega) (by simp; omega))
            rw [h114b0a, g114b0a]
            simp [h1', hx, h2, h3, h4, e1]
            try rfl
    · exact .inl (Evl.of (by rw [h114b0a, g114b0a]; simp [show ¬ (i : Int) < (b.size : Int) by omega]))
theorem text_ok (b : ByteArray) (hb : b.size ≤ 1000000) (i : Nat) (hi : i < b.size) : ∃ t, ∃ j : Nat, ∃ c : Bool, ev (q114 (sv b) (iv i)) = some (0, [sv t, iv j, bv c]) ∧ (c = true → i < j ∧ j ≤ b.size) := by
  obtain ⟨k, hk⟩ : ∃ k, k = i + 1 := ⟨_, rfl⟩
  have e1 := wone hk (by omega)
  rcases text_la b hb _ k (by omega) (Nat.le_refl _) with h | ⟨t, j, h, h1, h2⟩ | h
  · exact ⟨eB, 0, false, Evl.of (by rw [h114, g114]; simp [e1, h]), by simp⟩
  · exact ⟨t, j, true, Evl.of (by rw [h114, g114]; simp [e1, h]), fun _ => ⟨by omega, h2⟩⟩
  · exact ⟨eB, 0, false, Evl.of (by rw [h114, g114]; simp [e1, h]), by simp⟩
/-! Numbers. -/
theorem rem63 (n : Int) (k : AV → Res) : binK PG .fail .rem 183 (.pv (wv n)) (.pv (wv 9223372036854775808)) k = k (.pv (wv (n.tmod 9223372036854775808))) := binK_rem_u64 (by decide)
theorem mod_m (n : Int) : ∃ y : Int, ev (q166 (iv n)) = some (0, [wv y]) := ⟨_, Evl.of (by rw [h166, g166]; simp [rem63]; rfl)⟩
theorem mean_m (n : Int) : ∃ y : Int, ev (q165 (wv n)) = some (0, [iv y]) := by
  by_cases h : 4611686018427387904 ≤ n
  · exact ⟨_, Evl.of (by rw [h165, g165]; simp [h]; rfl)⟩
  · exact ⟨_, Evl.of (by rw [h165, g165]; simp [h]; rfl)⟩
theorem wrap_m (n : Int) : ∃ y : Int, ev (q157 (iv n)) = some (0, [iv y]) := by
  obtain ⟨y, h1⟩ := mod_m n
  obtain ⟨z, h2⟩ := mean_m y
  exact ⟨z, Evl.of (by rw [h157, g157]; simp [h1, h2])⟩
theorem sub_m (a n : Int) : ∃ y : Int, ev (q156 (iv a) (iv n)) = some (0, [iv y]) := by
  obtain ⟨y, h1⟩ := mod_m a
  obtain ⟨z, h2⟩ := mod_m n
  obtain ⟨x, h3⟩ := mean_m ((IntKind.u64.wrap (IntKind.u64.wrap (y + 9223372036854775808) - z)).tmod 9223372036854775808)
  exact ⟨x, Evl.of (by rw [h156, g156]; simp [h1]; simp [h2]; simp [rem63, h3])⟩
theorem signed0_m (n : Int) : ∃ y : Int, ev (q144g0 (wv n)) = some (0, [iv y]) := by
  obtain ⟨y, h⟩ := sub_m 0 (IntKind.i64.wrap (n.tmod 9223372036854775808))
  exact ⟨y, Evl.of (by rw [h144g0, g144g0]; simp [rem63]; simp [h])⟩
theorem signed1_m (n : Int) : ∃ y : Int, ev (q144g1 (wv n)) = some (0, [iv y]) := by
  obtain ⟨y, h⟩ := wrap_m (IntKind.i64.wrap (n.tmod 9223372036854775808))
  exact ⟨y, Evl.of (by rw [h144g1, g144g1]; simp [rem63]; simp [h])⟩
theorem parse_0a (s : ByteArray) (hs : s.size ≤ 1000000) : ∀ (m i : Nat), s.size - i ≤ m → ev (q117b0a (iv i) (sv s)) = some (1, [iv 1, sv s, bv true]) ∨ ev (q117b0a (iv i) (sv s)) = some (0, [iv 0, iv 2]) := by
  intro m
  induction m with
  | zero => exact fun i hi => .inl (Evl.of (by rw [h117b0a, g117b0a]; simp [show ¬ (i : Int) < (s.size : Int) by omega]))
  | succ m ih =>
    intro i hi
    by_cases h1 : i < s.size
    · have h1' : (i : Int) < (s.size : Int) := by omega
      have hx := fun (k : AV → Res) => indS (d := Res.fail) (k := k) h1
      obtain ⟨j, hj⟩ : ∃ j, j = i + 1 := ⟨_, rfl⟩
      have e1 := wone hj (by omega)
      by_cases h2 : byt s i < 48
      · exact .inr (Evl.of (by rw [h117b0a, g117b0a]; simp [h1', hx, h2]))
      · by_cases h3 : 57 < byt s i
        · exact .inr (Evl.of (by rw [h117b0a, g117b0a]; simp [h1', hx, h2, h3]))
        · rcases ih j (by omega) with g | g
          · exact .inl (Evl.of (by rw [h117b0a, g117b0a]; simp [h1', hx, h2, h3, e1, g]))
          · exact .inr (Evl.of (by rw [h117b0a, g117b0a]; simp [h1', hx, h2, h3, e1, g]))
    · exact .inl (Evl.of (by rw [h117b0a, g117b0a]; simp [show ¬ (i : Int) < (s.size : Int) by omega]))
theorem parse_2a (s : ByteArray) (hs : s.size ≤ 1000000) : ∀ (m i : Nat) (z : Int), s.size - i ≤ m → (∃ y : Int, ev (q117b2a (iv i) (sv s) (wv z)) = some (1, [wv y, bv true])) ∨ ev (q117b2a (iv i) (sv s) (wv z)) = some (0, [iv 0, iv 3]) := by
  intro m
  induction m with
  | zero => exact fun i z hi => .inl ⟨z, Evl.of (by rw [h117b2a, g117b2a]; simp [show ¬ (i : Int) < (s.size : Int) by omega])⟩
  | succ m ih =>
    intro i z hi
    by_cases h1 : i < s.size
    · have h1' : (i : Int) < (s.size : Int) := by omega
      have hx := fun (k : AV → Res) => indS (d := Res.fail) (k := k) h1
      obtain ⟨j, hj⟩ : ∃ j, j = i + 1 := ⟨_, rfl⟩
      have e1 := wone hj (by omega)
      obtain ⟨w, hw⟩ : ∃ w : Int, w = IntKind.u64.wrap (IntKind.u64.wrap (10 * z) + IntKind.u64.wrap (IntKind.u8.wrap (byt s i - 48))) := ⟨_, rfl⟩
      by_cases h2 : 4611686018427387904 < w
      · exact .inr (Evl.of (by rw [h117b2a, g117b2a]; simp [h1', hx, ← hw, h2]))
      · rcases ih j w (by omega) with ⟨y, g⟩ | g
        · exact .inl ⟨y, Evl.of (by rw [h117b2a, g117b2a]; simp [h1', hx, ← hw, h2, e1, g])⟩
        · exact .inr (Evl.of (by rw [h117b2a, g117b2a]; simp [h1', hx, ← hw, h2, e1, g]))
    · exact .inl ⟨z, Evl.of (by rw [h117b2a, g117b2a]; simp [show ¬ (i : Int) < (s.size : Int) by omega])⟩
theorem parse_0b (s : ByteArray) (hs : s.size ≤ 1000000) : ∀ (m i : Nat), s.size - i ≤ m → ev (q117b0b (iv i) (sv s)) = some (1, [iv 0, sv s, bv false]) ∨ ev (q117b0b (iv i) (sv s)) = some (0, [iv 0, iv 2]) := by
  intro m
  induction m with
  | zero => exact fun i hi => .inl (Evl.of (by rw [h117b0b, g117b0b]; simp [show ¬ (i : Int) < (s.size : Int) by omega]))
  | succ m ih =>
    intro i hi
    by_cases h1 : i < s.size
    · have h1' : (i : Int) < (s.size : Int) := by omega
      have hx := fun (k : AV → Res) => indS (d := Res.fail) (k := k) h1
      obtain ⟨j, hj⟩ : ∃ j, j = i + 1 := ⟨_, rfl⟩
      have e1 := wone hj (by omega)
      by_cases h2 : byt s i < 48
      · exact .inr (Evl.of (by rw [h117b0b, g117b0b]; simp [h1', hx, h2]))
      · by_cases h3 : 57 < byt s i
        · exact .inr (Evl.of (by rw [h117b0b, g117b0b]; simp [h1', hx, h2, h3]))
        · rcases ih j (by omega) with g | g
          · exact .inl (Evl.of (by rw [h117b0b, g117b0b]; simp [h1', hx, h2, h3, e1, g]))
          · exact .inr (Evl.of (by rw [h117b0b, g117b0b]; simp [h1', hx, h2, h3, e1, g]))
    · exact .inl (Evl.of (by rw [h117b0b, g117b0b]; simp [show ¬ (i : Int) < (s.size : Int) by omega]))
theorem parse_2b (s : ByteArray) (hs : s.size ≤ 1000000) : ∀ (m i : Nat) (z : Int), s.size - i ≤ m → (∃ y : Int, ev (q117b2b (iv i) (sv s) (wv z)) = some (1, [wv y, bv false])) ∨ ev (q117b2b (iv i) (sv s) (wv z)) = some (0, [iv 0, iv 3]) := by
  intro m
  induction m with
  | zero => exact fun i z hi => .inl ⟨z, Evl.of (by rw [h117b2b, g117b2b]; simp [show ¬ (i : Int) < (s.size : Int) by omega])⟩
  | succ m ih =>
    intro i z hi
    by_cases h1 : i < s.size
    · have h1' : (i : Int) < (s.size : Int) := by omega
      have hx := fun (k : AV → Res) => indS (d := Res.fail) (k := k) h1
      obtain ⟨j, hj⟩ : ∃ j, j = i + 1 := ⟨_, rfl⟩
      have e1 := wone hj (by omega)
      obtain ⟨w, hw⟩ : ∃ w : Int, w = IntKind.u64.wrap (IntKind.u64.wrap (10 * z) + IntKind.u64.wrap (IntKind.u8.wrap (byt s i - 48))) := ⟨_, rfl⟩
      by_cases h2 : 4611686018427387904 < w
      · exact .inr (Evl.of (by rw [h117b2b, g117b2b]; simp [h1', hx, ← hw, h2]))
      · rcases ih j w (by omega) with ⟨y, g⟩ | g
        · exact .inl ⟨y, Evl.of (by rw [h117b2b, g117b2b]; simp [h1', hx, ← hw, h2, e1, g])⟩
        · exact .inr (Evl.of (by rw [h117b2b, g117b2b]; simp [h1', hx, ← hw, h2, e1, g]))
    · exact .inl ⟨z, Evl.of (by rw [h117b2b, g117b2b]; simp [show ¬ (i : Int) < (s.size : Int) by omega])⟩
theorem parse_ok (s : ByteArray) (hs : s.size ≤ 1000000) : ∃ v e : Int, ev (q117 (sv s)) = some (0, [iv v, iv e]) := by
  by_cases h0 : s.size = 0
  · exact ⟨0, 2, Evl.of (by rw [h117, g117]; simp [h0])⟩
  · have h1 : 0 < (s.size : Int) := by omega
    have h1n : 0 < s.size := by omega
    have h1a : ¬ (0 : Int) = (s.size : Int) := by omega
    have hx : ∀ (k : AV → Res), indK PG .fail 9 (.pv (sv s)) (.pv (iv 0)) k = k (.pv (cv (byt s 0))) := fun k => indS (d := Res.fail) (k := k) (s := s) (i := 0) (by omega)
    by_cases h2 : byt s 0 = 45
    · by_cases h3 : (1 : Int) = (s.size : Int)
      · exact ⟨0, 2, Evl.of (by rw [h117, g117]; simp [h1, h1n, hx, h2, ← h3])⟩
      · have hy : ∀ (k : AV → Res), indK PG .fail 9 (.pv (sv s)) (.pv (iv 1)) k = k (.pv (cv (byt s 1))) := fun k => indS (d := Res.fail) (k := k) (s := s) (i := 1) (by omega)
        by_cases h4 : byt s 1 = 48
        · by_cases h5 : 2 < s.size
          · exact ⟨0, 2, Evl.of (by rw [h117, g117]; simp [h1, h1n, hx, h2, h3, hy, h4, h5])⟩
          · exact ⟨0, 2, Evl.of (by rw [h117, g117]; simp [h1, h1n, hx, h2, h3, hy, h4, h5])⟩
        · skip
          rcases parse_0a s hs _ 1 (Nat.le_refl _) with g | g
          · have g : ev (q117b0a (iv 1) (sv s)) = _ := g
            rcases parse_2a s hs _ 1 0 (Nat.le_refl _) with ⟨y, f⟩ | f
            · have f : ev (q117b2a (iv 1) (sv s) (wv 0)) = _ := f
              obtain ⟨v, hv⟩ := signed0_m y
              by_cases h9 : y = 4611686018427387904
              · exact ⟨v, 0, Evl.of (by rw [h117, g117]; rw [h9] at hv f; simp [h1, h1n, hx, h2, h3, hy, h4]; simp [g]; simp [f, hv])⟩
              · exact ⟨v, 0, Evl.of (by rw [h117, g117]; simp [h1, h1n, hx, h2, h3, hy, h4]; simp [g]; simp [f, h9, hv])⟩
            · have f : ev (q117b2a (iv 1) (sv s) (wv 0)) = _ := f
              exact ⟨0, 3, Evl.of (by rw [h117, g117]; simp [h1, h1n, hx, h2, h3, hy, h4]; simp [g]; simp [f])⟩
          · have g : ev (q117b0a (iv 1) (sv s)) = _ := g
            exact ⟨0, 2, Evl.of (by rw [h117, g117]; simp [h1, h1n, hx, h2, h3, hy, h4]; simp [g])⟩
    · by_cases h3 : byt s 0 = 48
      · by_cases h4 : (1 : Int) < (s.size : Int)
        · exact ⟨0, 2, Evl.of (by rw [h117, g117]; simp [h1, h1n, h1a, hx, h2, h3, h4])⟩
        · skip
          rcases parse_0b s hs _ 0 (Nat.le_refl _) with g | g
          · have g : ev (q117b0b (iv 0) (sv s)) = _ := g
            rcases parse_2b s hs _ 0 0 (Nat.le_refl _) with ⟨y, f⟩ | f
            · have f : ev (q117b2b (iv 0) (sv s) (wv 0)) = _ := f
              obtain ⟨v, hv⟩ := signed1_m y
              by_cases h9 : y = 4611686018427387904
              · exact ⟨0, 3, Evl.of (by rw [h117, g117]; rw [h9] at f; simp [h1, h1n, h1a, hx, h2, h3, h4]; simp [g]; simp [f])⟩
              · exact ⟨v, 0, Evl.of (by rw [h117, g117]; simp [h1, h1n, h1a, hx, h2, h3, h4]; simp [g]; simp [f, h9, hv])⟩
            · have f : ev (q117b2b (iv 0) (sv s) (wv 0)) = _ := f
              exact ⟨0, 3, Evl.of (by rw [h117, g117]; simp [h1, h1n, h1a, hx, h2, h3, h4]; simp [g]; simp [f])⟩
          · have g : ev (q117b0b (iv 0) (sv s)) = _ := g
            exact ⟨0, 2, Evl.of (by rw [h117, g117]; simp [h1, h1n, h1a, hx, h2, h3, h4]; simp [g])⟩
      · skip
        rcases parse_0b s hs _ 0 (Nat.le_refl _) with g | g
        · have g : ev (q117b0b (iv 0) (sv s)) = _ := g
          rcases parse_2b s hs _ 0 0 (Nat.le_refl _) with ⟨y, f⟩ | f
          · have f : ev (q117b2b (iv 0) (sv s) (wv 0)) = _ := f
            obtain ⟨v, hv⟩ := signed1_m y
            by_cases h9 : y = 4611686018427387904
            · exact ⟨0, 3, Evl.of (by rw [h117, g117]; rw [h9] at f; simp [h1, h1n, h1a, hx, h2, h3]; simp [g]; simp [f])⟩
            · exact ⟨v, 0, Evl.of (by rw [h117, g117]; simp [h1, h1n, h1a, hx, h2, h3]; simp [g]; simp [f, h9, hv])⟩
          · have f : ev (q117b2b (iv 0) (sv s) (wv 0)) = _ := f
            exact ⟨0, 3, Evl.of (by rw [h117, g117]; simp [h1, h1n, h1a, hx, h2, h3]; simp [g]; simp [f])⟩
        · have g : ev (q117b0b (iv 0) (sv s)) = _ := g
          exact ⟨0, 2, Evl.of (by rw [h117, g117]; simp [h1, h1n, h1a, hx, h2, h3]; simp [g])⟩

end Go.Proofs.YtijcobeebaceoaaGreatDoor
