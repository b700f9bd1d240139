/- Joined texts. -/
import Derived.Test.YtfphhabaeggenaaDoorBe
set_option linter.all false
namespace Go.Proofs.YtfphhabaeggenaaDoor
open Go.RowKit
set_option linter.all false
namespace Lx
theorem scan1 {f : Nat} {c : UInt8} {l r : List UInt8} {k n : Int} {x : List UInt8} {ts : List LTok} (h1 : oneL (c :: l) = .ok (k, x, n, r)) (h : scanL f (skipC false r) = .ok ts) : scanL (f + 1) (c :: l) = .ok ((k, x, n, (c :: l).length) :: ts) := by
  simp only [scanL]
  rw [h1]
  simp only
  rw [h]
def rep (n : Nat) (s : List UInt8) : List UInt8 := (List.replicate n s).flatten
theorem rep_succ (n : Nat) (s : List UInt8) : rep (n + 1) s = s ++ rep n s := by
  unfold rep; rw [List.replicate_succ, List.flatten_cons]
theorem rep_zero (s : List UInt8) : rep 0 s = [] := rfl
theorem rep_len (n : Nat) (s : List UInt8) : (rep n s).length = n * s.length := by
  induction n with
  | zero => simp [rep_zero]
  | succ n ih => rw [rep_succ, List.length_append, ih, Nat.succ_mul, Nat.add_comm]
theorem rep_snoc (n : Nat) (s : List UInt8) : rep (n + 1) s = rep n s ++ s := by
  induction n with
  | zero => simp [rep_succ, rep_zero]
  | succ n ih => rw [rep_succ, ih, ← List.append_assoc, ← rep_succ n, ih]
def TL (w : Nat) (tk : Nat → List LTok) : Nat → Nat → List LTok → List LTok
  | 0, _, ts => ts
  | n + 1, len, ts => tk (n * w + len) ++ TL w tk n len ts
theorem scan_steps (st : List UInt8) (tk : Nat → List LTok) (cnt : Nat) (hst : ∀ (r : List UInt8) (f : Nat) (ts : List LTok), scanL f (skipC false r) = .ok ts → scanL (f + cnt) (skipC false (st ++ r)) = .ok (tk r.length ++ ts)) : ∀ (n : Nat) (r : List UInt8) (f : Nat) (ts : List LTok), scanL f (skipC false r) = .ok ts → scanL (f + cnt * n) (skipC false (rep n st ++ r)) = .ok (TL st.length tk n r.length ts)
  | 0, r, f, ts, h => by simpa [rep_zero, TL] using h
  | n + 1, r, f, ts, h => by
    have ih := scan_steps st tk cnt hst n r f ts h
    have := hst _ _ _ ih
    rw [rep_succ, List.append_assoc, TL, show f + cnt * (n + 1) = f + cnt * n + cnt by rw [Nat.mul_succ]; omega, this, List.length_append, rep_len]
theorem TL_drop (w : Nat) (tk : Nat → List LTok) (cnt : Nat) (hc : ∀ r, (tk r).length = cnt) (len : Nat) (ts : List LTok) : ∀ (n j : Nat), j ≤ n → (TL w tk n len ts).drop (cnt * j) = TL w tk (n - j) len ts
  | n, 0, _ => by simp
  | 0, j + 1, h => by omega
  | n + 1, j + 1, h => by
    have ih := TL_drop w tk cnt hc len ts n j (by omega)
    rw [TL, show cnt * (j + 1) = (tk (n * w + len)).length + cnt * j by rw [hc, Nat.mul_succ]; omega, List.drop_append, Nat.add_sub_cancel_left, ih, show n + 1 - (j + 1) = n - j by omega]
    simp
theorem TL_get (w : Nat) (tk : Nat → List LTok) (cnt : Nat) (hc : ∀ r, (tk r).length = cnt) (len : Nat) (ts : List LTok) (n j i : Nat) (h : j < n) (hi : i < cnt) : (TL w tk n len ts)[cnt * j + i]? = (tk ((n - j - 1) * w + len))[i]? := by
  rw [← List.getElem?_drop, TL_drop w tk cnt hc len ts n j (by omega)]
  obtain ⟨k, hk⟩ : ∃ k, n - j = k + 1 := ⟨n - j - 1, by omega⟩
  rw [hk, TL, List.getElem?_append_left (by rw [hc]; exact hi)]
  rfl
theorem TL_end (w : Nat) (tk : Nat → List LTok) (cnt : Nat) (hc : ∀ r, (tk r).length = cnt) (len : Nat) (ts : List LTok) (n i : Nat) : (TL w tk n len ts)[cnt * n + i]? = ts[i]? := by
  rw [← List.getElem?_drop, TL_drop w tk cnt hc len ts n n (by omega), Nat.sub_self]
  rfl
theorem TL_len (w : Nat) (tk : Nat → List LTok) (cnt : Nat) (hc : ∀ r, (tk r).length = cnt) (len : Nat) (ts : List LTok) : ∀ n, (TL w tk n len ts).length = cnt * n + ts.length
  | 0 => by simp [TL]
  | n + 1 => by rw [TL, List.length_append, hc, TL_len w tk cnt hc len ts n, Nat.mul_succ]; omega
/-- the four steps, and what closes them -/
def st0 : List UInt8 := [40]
def st1 : List UInt8 := [92, 120, 32, 45, 62, 32]
def st2 : List UInt8 := [105, 102, 32, 97, 32, 116, 104, 101, 110, 32, 98, 32, 101, 108, 115, 101, 32]
def st3 : List UInt8 := [108, 101, 116, 32, 121, 32, 61, 32]
def tlt : List UInt8 := [32, 105, 110, 32, 121]
def tk0 (r : Nat) : List LTok := [(7, [40], 0, r + 1)]
def tk1 (r : Nat) : List LTok := [(7, [92], 0, r + 6), (1, [120], 0, r + 5), (7, [45, 62], 0, r + 3)]
def tk2 (r : Nat) : List LTok := [(6, [105, 102], 0, r + 17), (1, [97], 0, r + 14), (6, [116, 104, 101, 110], 0, r + 12), (1, [98], 0, r + 7), (6, [101, 108, 115, 101], 0, r + 5)]
def tk3 (r : Nat) : List LTok := [(6, [108, 101, 116], 0, r + 8), (1, [121], 0, r + 4), (7, [61], 0, r + 2)]
def tc0 (r : Nat) : List LTok := [(7, [41], 0, r + 1)]
def tc3 (r : Nat) : List LTok := [(6, [105, 110], 0, r + 4), (1, [121], 0, r + 1)]
set_option maxRecDepth 100000
theorem step0 (r : List UInt8) (f : Nat) (ts : List LTok) (h : scanL f (skipC false r) = .ok ts) : scanL (f + 1) (skipC false (st0 ++ r)) = .ok (tk0 r.length ++ ts) :=
  scan1 (c := 40) (l := r) (k := 7) (n := 0) (x := [40]) (r := r) rfl h
theorem step1 (r : List UInt8) (f : Nat) (ts : List LTok) (h : scanL f (skipC false r) = .ok ts) : scanL (f + 3) (skipC false (st1 ++ r)) = .ok (tk1 r.length ++ ts) :=
  scan1 (c := 92) (k := 7) (n := 0) (x := [92]) (r := 120 :: 32 :: 45 :: 62 :: 32 :: r) rfl
    (scan1 (c := 120) (k := 1) (n := 0) (x := [120]) (r := 32 :: 45 :: 62 :: 32 :: r) rfl
      (scan1 (c := 45) (k := 7) (n := 0) (x := [45, 62]) (r := 32 :: r) rfl h))
theorem step2 (r : List UInt8) (f : Nat) (ts : List LTok) (h : scanL f (skipC false r) = .ok ts) : scanL (f + 5) (skipC false (st2 ++ r)) = .ok (tk2 r.length ++ ts) :=
  scan1 (c := 105) (k := 6) (n := 0) (x := [105, 102]) (r := 32 :: 97 :: 32 :: 116 :: 104 :: 101 :: 110 :: 32 :: 98 :: 32 :: 101 :: 108 :: 115 :: 101 :: 32 :: r) rfl
    (scan1 (c := 97) (k := 1) (n := 0) (x := [97]) (r := 32 :: 116 :: 104 :: 101 :: 110 :: 32 :: 98 :: 32 :: 101 :: 108 :: 115 :: 101 :: 32 :: r) rfl
      (scan1 (c := 116) (k := 6) (n := 0) (x := [116, 104, 101, 110]) (r := 32 :: 98 :: 32 :: 101 :: 108 :: 115 :: 101 :: 32 :: r) rfl
        (scan1 (c := 98) (k := 1) (n := 0) (x := [98]) (r := 32 :: 101 :: 108 :: 115 :: 101 :: 32 :: r) rfl
          (scan1 (c := 101) (k := 6) (n := 0) (x := [101, 108, 115, 101]) (r := 32 :: r) rfl h))))
theorem step3 (r : List UInt8) (f : Nat) (ts : List LTok) (h : scanL f (skipC false r) = .ok ts) : scanL (f + 3) (skipC false (st3 ++ r)) = .ok (tk3 r.length ++ ts) :=
  scan1 (c := 108) (k := 6) (n := 0) (x := [108, 101, 116]) (r := 32 :: 121 :: 32 :: 61 :: 32 :: r) rfl
    (scan1 (c := 121) (k := 1) (n := 0) (x := [121]) (r := 32 :: 61 :: 32 :: r) rfl
      (scan1 (c := 61) (k := 7) (n := 0) (x := [61]) (r := 32 :: r) rfl h))
theorem close0 (r : List UInt8) (f : Nat) (ts : List LTok) (h : scanL f (skipC false r) = .ok ts) : scanL (f + 1) (skipC false ([41] ++ r)) = .ok (tc0 r.length ++ ts) :=
  scan1 (c := 41) (l := r) (k := 7) (n := 0) (x := [41]) (r := r) rfl h
/-- what stands behind a name's letter -/
inductive Stop : List UInt8 → Prop
  | nil : Stop []
  | blank (r : List UInt8) : Stop (32 :: r)
  | close (r : List UInt8) : Stop (41 :: r)
theorem name1 {c : UInt8} (hc : c = 97 ∨ c = 121) {r : List UInt8} (hr : Stop r) {f : Nat} {ts : List LTok} (h : scanL f (skipC false r) = .ok ts) : scanL (f + 1) (skipC false (c :: r)) = .ok ((1, [c], 0, r.length + 1) :: ts) := by
  have h1 : oneL (c :: r) = .ok (1, [c], 0, r) := by
    rcases hc with rfl | rfl <;> cases hr <;> rfl
  have h2 : skipC false (c :: r) = c :: r := by rcases hc with rfl | rfl <;> rfl
  rw [h2]
  exact scan1 h1 h
theorem stop_rep3 (n : Nat) : Stop (rep n tlt) := by
  cases n with
  | zero => exact .nil
  | succ n => rw [rep_succ]; exact .blank _
theorem stop_rep0 (n : Nat) : Stop (rep n [41]) := by
  cases n with
  | zero => exact .nil
  | succ n => rw [rep_succ]; exact .close _
theorem close3 (n f : Nat) (ts : List LTok) (h : scanL f (skipC false (rep n tlt)) = .ok ts) : scanL (f + 2) (skipC false (tlt ++ rep n tlt)) = .ok (tc3 (rep n tlt).length ++ ts) := by
  have h1 := name1 (c := 121) (.inr rfl) (stop_rep3 n) h
  exact scan1 (c := 105) (l := 110 :: 32 :: 121 :: rep n tlt) (k := 6) (n := 0) (x := [105, 110]) (r := 32 :: 121 :: rep n tlt) rfl h1
theorem scan_close3 : ∀ (n f : Nat), scanL (f + 2 * n) (skipC false (rep n tlt)) = .ok (TL 5 tc3 n 0 [(0, [], 0, 0)])
  | 0, f => by
    rw [rep_zero]
    cases f <;> rfl
  | n + 1, f => by
    have ih := scan_close3 n f
    have := close3 n _ _ ih
    rw [rep_succ, show f + 2 * (n + 1) = f + 2 * n + 2 by omega, this, rep_len]
    rfl
theorem scan_end (f : Nat) : scanL f (skipC false []) = .ok [(0, [], 0, 0)] := by cases f <;> rfl
theorem scan_close0 (n f : Nat) : scanL (f + 1 * n) (skipC false (rep n [41])) = .ok (TL 1 tc0 n 0 [(0, [], 0, 0)]) := by
  have := scan_steps [41] tc0 1 close0 n [] f _ (scan_end f)
  rw [List.append_nil] at this
  exact this
/-- nothing spoils letters below 128 -/
theorem spoil_low : ∀ (f : Nat) (l : List UInt8), (∀ c ∈ l, c.toNat < 128) → spoilL f l = none
  | 0, _, _ => rfl
  | f + 1, [], _ => rfl
  | f + 1, c :: r, h => by
    have hc := h c (by simp)
    have hd : decL (c :: r) = (c.toNat, 1) := by
      unfold decL Lib.decodeN byteN
      simp [hc]
    have hb : badL (c :: r) = false := by
      unfold badL
      rw [hd]
      have : ((c.toNat : Int) == 65533) = false := by
        rw [beq_eq_false_iff_ne]; omega
      rw [this]; rfl
    simp only [spoilL, hb, hd]
    simp
    exact spoil_low f r (fun c hc => h c (by simp [hc]))
end Lx
set_option linter.all false
section
variable (L : List Tk)
theorem kindG_no {α : Type} {k : Int} {A B : GM α} {d : Int} {a : Nat} (h : (tkAt L a).kind ≠ k) : kindG L k A B d a = B d a := by
  unfold kindG; rw [if_neg h]
theorem kindG_is {α : Type} {k : Int} {A B : GM α} {d : Int} {a : Nat} (h : (tkAt L a).kind = k) : kindG L k A B d a = A d a := by
  unfold kindG; rw [if_pos h]
theorem mayG_is {α : Type} {x : ByteArray} {A B : GM α} {d : Int} {a : Nat} (h : isT L x a = true) : mayG L x A B d a = A d (a + 1) := by
  unfold mayG; rw [if_pos h]
theorem mayG_no {α : Type} {x : ByteArray} {A B : GM α} {d : Int} {a : Nat} (h : isT L x a = false) : mayG L x A B d a = B d a := by
  unfold mayG; rw [if_neg (by simp [h])]
theorem stG_no {α : Type} {w : Int} {A B : GM α} {d : Int} {a : Nat} (h : stW L w a = false) : stG L w A B d a = B d a := by
  unfold stG; rw [if_neg (by simp [h])]
theorem bindG_of {α β : Type} {p : GM α} {k : α → GM β} {d : Int} {a b : Nat} {v : α} (h : p d a = .ok v b) : bindG p k d a = k v d b := by
  unfold bindG; rw [h]; rfl
theorem bindG_er {α β : Type} {p : GM α} {k : α → GM β} {d : Int} {a : Nat} {e w : Int} (h : p d a = .err e w) : bindG p k d a = .err e w := by
  unfold bindG; rw [h]; rfl
theorem takeG_is {x : ByteArray} {k : Int} {d : Int} {a : Nat} (hk : ¬ k < 6) (h : isT L x a = true) : takeG L k x d a = .ok (tkAt L a) (a + 1) := by
  unfold takeG okT; rw [if_neg hk, h]; rfl
theorem takeG_kind {x : ByteArray} {k : Int} {d : Int} {a : Nat} (hk : k < 6) (h : (tkAt L a).kind = k) : takeG L k x d a = .ok (tkAt L a) (a + 1) := by
  unfold takeG okT; rw [if_pos hk, h]; simp
/-- a token's mark or key word -/
theorem isT_of {x : ByteArray} {a : Nat} {k : Int} {y : ByteArray} {n w : Int} (h : tkAt L a = ⟨k, y, n, w⟩) : isT L x a = (decide (6 ≤ k) && decide (y = x)) := by
  unfold isT; rw [h]
theorem exp_ok {m a b : Nat} {d : Int} {x : Ex} (hd : ¬ 300 < d + 1) (ho : operandG L (m + 1) (d + 1) a = .ok x b) (hn : (tkAt L b).kind ≠ 5) : expG L (m + 2) d a = .ok x b := by
  rw [expG]
  unfold deepG
  rw [if_neg hd, bindG_of ho]
  have : opsG L (m + 1) [x] [] (d + 1) b = .ok ([x], []) b := by
    rw [opsG, kindG_no L hn]; rfl
  rw [bindG_of this]
  rfl
theorem exp_er {m a : Nat} {d e w : Int} (hd : ¬ 300 < d + 1) (ho : operandG L m (d + 1) a = .err e w) : expG L (m + 1) d a = .err e w := by
  rw [expG]
  unfold deepG
  rw [if_neg hd, bindG_er ho]
theorem exp_deep {m a : Nat} {d : Int} (hd : 300 < d + 1) : expG L (m + 1) d a = .err 111 (tkAt L a).at_ := by
  rw [expG]
  unfold deepG
  rw [if_pos hd]
/-- a name alone -/
theorem op_name {m a : Nat} {d : Int} {y : ByteArray} {n w : Int} (ha : tkAt L a = ⟨1, y, n, w⟩) (hs : stW L 2 (a + 1) = false) : operandG L (m + 2) d a = .ok (exM 3 y 0 [] w) (a + 1) := by
  have h : ∀ x, isT L x a = false := fun x => by rw [isT_of L ha]; rfl
  rw [operandG]
  dsimp only [nextG]
  rw [mayG_no L (h _), mayG_no L (h _), mayG_no L (h _)]
  have h1 : atomG L (m + 1) d a = .ok (exM 3 y 0 [] w) (a + 1) := by
    rw [atomG]
    dsimp only [nextG]
    rw [ha]
    rfl
  rw [bindG_of h1, appsG, stG_no L hs]
  rfl
theorem exp_name {m a : Nat} {d : Int} {y : ByteArray} {n w : Int} (hd : ¬ 300 < d + 1) (ha : tkAt L a = ⟨1, y, n, w⟩) (hs : stW L 2 (a + 1) = false) (hn : (tkAt L (a + 1)).kind ≠ 5) : expG L (m + 3) d a = .ok (exM 3 y 0 [] w) (a + 1) :=
  exp_ok L (m := m + 1) hd (op_name L ha hs) hn
theorem st_key {a : Nat} {k : Int} {y : ByteArray} {n w : Int} (h : tkAt L a = ⟨k, y, n, w⟩) (hk : k = 0 ∨ 6 ≤ k) (h1 : y ≠ sOp) (h2 : y ≠ sCase) : stW L 2 a = false := by
  unfold stW
  rw [isT_of L h, isT_of L h, isT_of L h, h]
  have e1 : ¬ k = 1 := by omega
  have e2 : ¬ k = 2 := by omega
  have e3 : ¬ k = 3 := by omega
  have e4 : ¬ k = 4 := by omega
  simp [e1, e2, e3, e4, h1, h2]
end
/-- what follows a name here: not an operator, nothing that goes on -/
def Ends (L : List Tk) (a : Nat) : Prop := stW L 2 a = false ∧ (tkAt L a).kind ≠ 5
theorem ends_of {L : List Tk} {a : Nat} {k : Int} {y : ByteArray} {n w : Int} (h : tkAt L a = ⟨k, y, n, w⟩) (hk : k = 0 ∨ 6 ≤ k) (h1 : y ≠ sOp) (h2 : y ≠ sCase) : Ends L a := ⟨st_key L h hk h1 h2, by rw [h]; simp only; omega⟩
/-- the tokens of n steps of each kind -/
structure K0 (L : List Tk) (n : Nat) (p : Nat → Int) : Prop where
  s : ∀ j, j < n → tkAt L j = ⟨7, sOp, 0, p j⟩
  a : tkAt L n = ⟨1, ⟨#[97]⟩, 0, p n⟩
  c : ∀ j, j < n → ∃ w, tkAt L (n + 1 + j) = ⟨7, sCl, 0, w⟩
  e : ∃ w, tkAt L (n + 1 + n) = ⟨0, eB, 0, w⟩
structure K1 (L : List Tk) (n : Nat) (p : Nat → Int) : Prop where
  s : ∀ j, j < n → tkAt L (3 * j) = ⟨7, sBs, 0, p j⟩
  x : ∀ j, j < n → ∃ w, tkAt L (3 * j + 1) = ⟨1, ⟨#[120]⟩, 0, w⟩
  t : ∀ j, j < n → ∃ w, tkAt L (3 * j + 2) = ⟨7, sArr, 0, w⟩
  a : tkAt L (3 * n) = ⟨1, ⟨#[97]⟩, 0, p n⟩
  e : ∃ w, tkAt L (3 * n + 1) = ⟨0, eB, 0, w⟩
structure K2 (L : List Tk) (n : Nat) (p : Nat → Int) : Prop where
  s : ∀ j, j < n → ∃ w, tkAt L (5 * j) = ⟨6, sIf, 0, w⟩
  x : ∀ j, j < n → tkAt L (5 * j + 1) = ⟨1, ⟨#[97]⟩, 0, p j⟩
  t : ∀ j, j < n → ∃ w, tkAt L (5 * j + 2) = ⟨6, sThen, 0, w⟩
  y : ∀ j, j < n → ∃ w, tkAt L (5 * j + 3) = ⟨1, ⟨#[98]⟩, 0, w⟩
  u : ∀ j, j < n → ∃ w, tkAt L (5 * j + 4) = ⟨6, sElse, 0, w⟩
  a : ∃ w, tkAt L (5 * n) = ⟨1, ⟨#[97]⟩, 0, w⟩
  e : ∃ w, tkAt L (5 * n + 1) = ⟨0, eB, 0, w⟩
structure K3 (L : List Tk) (n : Nat) (p : Nat → Int) : Prop where
  s : ∀ j, j < n → tkAt L (3 * j) = ⟨6, sLet, 0, p j⟩
  x : ∀ j, j < n → ∃ w, tkAt L (3 * j + 1) = ⟨1, ⟨#[121]⟩, 0, w⟩
  t : ∀ j, j < n → ∃ w, tkAt L (3 * j + 2) = ⟨7, sEq, 0, w⟩
  a : tkAt L (3 * n) = ⟨1, ⟨#[97]⟩, 0, p n⟩
  c : ∀ j, j < n → ∃ w, tkAt L (3 * n + 1 + 2 * j) = ⟨6, sIn, 0, w⟩
  y : ∀ j, j < n → ∃ w, tkAt L (3 * n + 1 + 2 * j + 1) = ⟨1, ⟨#[121]⟩, 0, w⟩
  e : ∃ w, tkAt L (3 * n + 1 + 2 * n) = ⟨0, eB, 0, w⟩
section
variable {L : List Tk} {n : Nat} {p : Nat → Int}
theorem ne_text {x y : List UInt8} (h : x ≠ y) : (⟨x.toArray⟩ : ByteArray) ≠ ⟨y.toArray⟩ := fun e => h (by
  have := congrArg (fun b : ByteArray => b.data.toList) e
  simpa using this)
/-- brackets -/
theorem op_br {m a : Nat} {d : Int} {w : Int} (ha : tkAt L a = ⟨7, sOp, 0, w⟩) (h1 : isT L sCl (a + 1) = false) (h2 : (tkAt L (a + 1)).kind ≠ 5) : operandG L (m + 3) d a = bindG (bindG (expG L (m + 1)) fun y => mayG L sCol (bindG (typeF L (m + 1)) fun ty => bindG (takeG L 7 sCl) fun _ => pureG (.mk 12 eB 0 ty [y] [] [] w)) (bindG (takeG L 7 sCl) fun _ => pureG y)) (fun x => appsG L (m + 2) w x) d (a + 1) := by
  have h : ∀ x, sOp ≠ x → isT L x a = false := fun x hx => by rw [isT_of L ha]; simp [hx]
  have ho : isT L sOp a = true := by rw [isT_of L ha]; decide
  rw [operandG]
  dsimp only [nextG]
  rw [mayG_no L (h _ (by decide)), mayG_no L (h _ (by decide)), mayG_no L (h _ (by decide))]
  have e : atomG L (m + 2) d a = bindG (expG L (m + 1)) (fun y => mayG L sCol (bindG (typeF L (m + 1)) fun ty => bindG (takeG L 7 sCl) fun _ => pureG (.mk 12 eB 0 ty [y] [] [] w)) (bindG (takeG L 7 sCl) fun _ => pureG y)) d (a + 1) := by
    rw [atomG]
    dsimp only [nextG]
    rw [ha]
    simp only [if_neg (show ¬ (7 : Int) = 1 by decide), if_neg (show ¬ (7 : Int) = 2 by decide), if_neg (show ¬ (7 : Int) = 3 by decide), if_neg (show ¬ (7 : Int) = 4 by decide)]
    rw [mayG_no L (h _ (by decide)), bindG_of (takeG_is L (by decide) ho), mayG_no L h1, kindG_no L h2]
  show (bindG (atomG L (m + 2)) fun x => appsG L (m + 2) (tkAt L a).at_ x) d a = _
  rw [ha]
  unfold bindG at e ⊢
  rw [e]
theorem k0_ok (H : K0 L n p) (hn : n < 300) : ∀ (k : Nat), k ≤ n → ∀ m, 10 * k + 10 ≤ m → ∃ v, expG L m ((n - k : Nat) : Int) (n - k) = .ok v (n + 1 + k)
  | 0, _, m, hm => by
    obtain ⟨m, rfl⟩ : ∃ m', m = m' + 3 := ⟨m - 3, by omega⟩
    have ha := H.a
    have he : Ends L (n + 1) := by
      cases n with
      | zero => obtain ⟨w, he⟩ := H.e; exact ends_of he (.inl rfl) (by decide) (by decide)
      | succ n => obtain ⟨w, he⟩ := H.c 0 (by omega); exact ends_of he (.inr (by decide)) (by decide) (by decide)
    exact ⟨_, exp_name L (by omega) ha he.1 he.2⟩
  | k + 1, hk, m, hm => by
    obtain ⟨m, rfl⟩ : ∃ m', m = m' + 4 := ⟨m - 4, by omega⟩
    obtain ⟨v, hv⟩ := k0_ok H hn k (by omega) (m + 1) (by omega)
    have hs := H.s (n - (k + 1)) (by omega)
    have e1 : n - (k + 1) + 1 = n - k := by omega
    have hd : (((n - (k + 1) : Nat) : Int) + 1) = ((n - k : Nat) : Int) := by omega
    have hx : isT L sCl (n - k) = false ∧ (tkAt L (n - k)).kind ≠ 5 := by
      cases k with
      | zero => have ha := H.a; rw [Nat.sub_zero, isT_of L ha, ha]; exact ⟨rfl, show (1 : Int) ≠ 5 by decide⟩
      | succ k => have h := H.s (n - (k + 1)) (by omega); rw [isT_of L h, h]; exact ⟨by decide, show (7 : Int) ≠ 5 by decide⟩
    obtain ⟨w, hc⟩ := H.c k (by omega)
    have he : Ends L (n + 1 + k + 1) := by
      by_cases hl : k + 1 < n
      · obtain ⟨w, he⟩ := H.c (k + 1) hl; exact ends_of he (.inr (by decide)) (by decide) (by decide)
      · obtain ⟨w, he⟩ := H.e
        have : n + 1 + k + 1 = n + 1 + n := by omega
        rw [this]; exact ends_of he (.inl rfl) (by decide) (by decide)
    refine ⟨v, exp_ok L (m := m + 2) (by omega) ?_ he.2⟩
    rw [op_br hs (by rw [e1]; exact hx.1) (by rw [e1]; exact hx.2), hd, e1]
    have h3 : isT L sCol (n + 1 + k) = false := by rw [isT_of L hc]; decide
    have h4 : isT L sCl (n + 1 + k) = true := by rw [isT_of L hc]; decide
    have h5 : bindG (expG L (m + 1)) (fun y => mayG L sCol (bindG (typeF L (m + 1)) fun ty => bindG (takeG L 7 sCl) fun _ => pureG (.mk 12 eB 0 ty [y] [] [] (p (n - (k + 1))))) (bindG (takeG L 7 sCl) fun _ => pureG y)) ((n - k : Nat) : Int) (n - k) = .ok v (n + 1 + k + 1) := by
      rw [bindG_of hv, mayG_no L h3, bindG_of (takeG_is L (by decide) h4)]
      rfl
    rw [bindG_of h5, appsG, stG_no L he.1]
    rfl
theorem k0_er (H : K0 L n p) (hn : 300 ≤ n) : ∀ (k : Nat), k ≤ 300 → ∀ m, 10 * k + 10 ≤ m → ∃ w, w = (tkAt L 300).at_ ∧ expG L m ((300 - k : Nat) : Int) (300 - k) = .err 111 w
  | 0, _, m, hm => by
    obtain ⟨m, rfl⟩ : ∃ m', m = m' + 1 := ⟨m - 1, by omega⟩
    exact ⟨_, rfl, exp_deep L (by decide)⟩
  | k + 1, hk, m, hm => by
    obtain ⟨m, rfl⟩ : ∃ m', m = m' + 4 := ⟨m - 4, by omega⟩
    obtain ⟨w, hw, hv⟩ := k0_er H hn k (by omega) (m + 1) (by omega)
    have hs := H.s (300 - (k + 1)) (by omega)
    have e1 : 300 - (k + 1) + 1 = 300 - k := by omega
    have hd : (((300 - (k + 1) : Nat) : Int) + 1) = ((300 - k : Nat) : Int) := by omega
    have hx : isT L sCl (300 - k) = false ∧ (tkAt L (300 - k)).kind ≠ 5 := by
      by_cases hl : 300 - k < n
      · have h := H.s (300 - k) hl; rw [isT_of L h, h]; exact ⟨by decide, show (7 : Int) ≠ 5 by decide⟩
      · have : 300 - k = n := by omega
        have ha := H.a; rw [this, isT_of L ha, ha]; exact ⟨rfl, show (1 : Int) ≠ 5 by decide⟩
    refine ⟨w, hw, exp_er L (m := m + 3) (by omega) ?_⟩
    rw [op_br hs (by rw [e1]; exact hx.1) (by rw [e1]; exact hx.2), hd, e1]
    exact bindG_er (bindG_er hv)
/-- functions -/
theorem op_lam {m a : Nat} {d : Int} {w w2 w3 : Int} (h0 : tkAt L a = ⟨7, sBs, 0, w⟩) (h1 : tkAt L (a + 1) = ⟨1, ⟨#[120]⟩, 0, w2⟩) (h2 : tkAt L (a + 2) = ⟨7, sArr, 0, w3⟩) : operandG L (m + 3) d a = bindG (expG L m) (fun e => pureG (wrapE [(⟨#[120]⟩, w)] e)) d (a + 3) := by
  have h : isT L sBs a = true := by rw [isT_of L h0]; decide
  have h3 : isT L sArr (a + 2) = true := by rw [isT_of L h2]; decide
  rw [operandG]
  dsimp only [nextG]
  rw [mayG_is L h, lambdaG, bindG_of (takeG_kind L (by decide) (by rw [h1])), lamsG, kindG_no L (by rw [h2]; show (7 : Int) ≠ 1; decide), bindG_of (takeG_is L (by decide) h3), h0, h1]
theorem k1_ok (H : K1 L n p) (hn : n < 300) : ∀ (k : Nat), k ≤ n → ∀ m, 10 * k + 10 ≤ m → ∃ v, expG L m ((n - k : Nat) : Int) (3 * (n - k)) = .ok v (3 * n + 1)
  | 0, _, m, hm => by
    obtain ⟨m, rfl⟩ : ∃ m', m = m' + 3 := ⟨m - 3, by omega⟩
    have ha := H.a
    obtain ⟨w, he⟩ := H.e
    have he := ends_of he (.inl rfl) (by decide) (by decide)
    exact ⟨_, exp_name L (by omega) ha he.1 he.2⟩
  | k + 1, hk, m, hm => by
    obtain ⟨m, rfl⟩ : ∃ m', m = m' + 4 := ⟨m - 4, by omega⟩
    obtain ⟨v, hv⟩ := k1_ok H hn k (by omega) m (by omega)
    obtain ⟨w, he⟩ := H.e
    have he := ends_of he (.inl rfl) (by decide) (by decide)
    have h0 := H.s (n - (k + 1)) (by omega)
    obtain ⟨w2, h1⟩ := H.x (n - (k + 1)) (by omega)
    obtain ⟨w3, h2⟩ := H.t (n - (k + 1)) (by omega)
    refine ⟨wrapE [(⟨#[120]⟩, p (n - (k + 1)))] v, exp_ok L (m := m + 2) (by omega) ?_ he.2⟩
    rw [op_lam h0 h1 h2, show (((n - (k + 1) : Nat) : Int) + 1) = ((n - k : Nat) : Int) by omega, show 3 * (n - (k + 1)) + 3 = 3 * (n - k) by omega, bindG_of hv]
    rfl
theorem k1_er (H : K1 L n p) (hn : 300 ≤ n) : ∀ (k : Nat), k ≤ 300 → ∀ m, 10 * k + 10 ≤ m → ∃ w, w = (tkAt L 900).at_ ∧ expG L m ((300 - k : Nat) : Int) (3 * (300 - k)) = .err 111 w
  | 0, _, m, hm => by
    obtain ⟨m, rfl⟩ : ∃ m', m = m' + 1 := ⟨m - 1, by omega⟩
    exact ⟨_, rfl, exp_deep L (by decide)⟩
  | k + 1, hk, m, hm => by
    obtain ⟨m, rfl⟩ : ∃ m', m = m' + 4 := ⟨m - 4, by omega⟩
    obtain ⟨w, hw, hv⟩ := k1_er H hn k (by omega) m (by omega)
    have h0 := H.s (300 - (k + 1)) (by omega)
    obtain ⟨w2, h1⟩ := H.x (300 - (k + 1)) (by omega)
    obtain ⟨w3, h2⟩ := H.t (300 - (k + 1)) (by omega)
    refine ⟨w, hw, exp_er L (m := m + 3) (by omega) ?_⟩
    rw [op_lam h0 h1 h2, show (((300 - (k + 1) : Nat) : Int) + 1) = ((300 - k : Nat) : Int) by omega, show 3 * (300 - (k + 1)) + 3 = 3 * (300 - k) by omega]
    exact bindG_er hv
/-- choices -/
theorem op_if {m a : Nat} {d : Int} {w : Int} (h0 : tkAt L a = ⟨6, sIf, 0, w⟩) : operandG L (m + 1) d a = bindG (expG L m) (fun a' => bindG (takeG L 6 sThen) fun _ => bindG (expG L m) fun b => bindG (takeG L 6 sElse) fun _ => bindG (expG L m) fun c => pureG (exM 9 eB 0 [a', b, c] w)) d (a + 1) := by
  have h : ∀ x, sIf ≠ x → isT L x a = false := fun x hx => by rw [isT_of L h0]; simp [hx]
  have ho : isT L sIf a = true := by rw [isT_of L h0]; decide
  rw [operandG]
  dsimp only [nextG]
  rw [mayG_no L (h _ (by decide)), mayG_no L (h _ (by decide)), mayG_is L ho, h0]
theorem k2_part (H : K2 L n p) {m j : Nat} {d : Int} (hj : j < n) (hd : ¬ 300 < d + 1) : ∃ x y : Ex, ∀ w' : Int, bindG (expG L (m + 3)) (fun a' => bindG (takeG L 6 sThen) fun _ => bindG (expG L (m + 3)) fun b => bindG (takeG L 6 sElse) fun _ => bindG (expG L (m + 3)) fun c => pureG (exM 9 eB 0 [a', b, c] w')) d (5 * j + 1) = bindG (expG L (m + 3)) (fun c => pureG (exM 9 eB 0 [x, y, c] w')) d (5 * j + 5) := by
  have h1 := H.x j hj
  obtain ⟨w2, h2⟩ := H.t j hj
  obtain ⟨w3, h3⟩ := H.y j hj
  obtain ⟨w4, h4⟩ := H.u j hj
  have e2 := ends_of h2 (.inr (by decide)) (by decide) (by decide)
  have e4 := ends_of h4 (.inr (by decide)) (by decide) (by decide)
  have i2 : isT L sThen (5 * j + 2) = true := by rw [isT_of L h2]; decide
  have i4 : isT L sElse (5 * j + 4) = true := by rw [isT_of L h4]; decide
  refine ⟨exM 3 ⟨#[97]⟩ 0 [] (p j), exM 3 ⟨#[98]⟩ 0 [] w3, fun w' => ?_⟩
  rw [bindG_of (exp_name L hd h1 e2.1 e2.2), bindG_of (takeG_is L (by decide) i2), bindG_of (exp_name L hd h3 e4.1 e4.2), bindG_of (takeG_is L (by decide) i4)]
theorem k2_ok (H : K2 L n p) (hn : n < 300) : ∀ (k : Nat), k ≤ n → ∀ m, 10 * k + 10 ≤ m → ∃ v, expG L m ((n - k : Nat) : Int) (5 * (n - k)) = .ok v (5 * n + 1)
  | 0, _, m, hm => by
    obtain ⟨m, rfl⟩ : ∃ m', m = m' + 3 := ⟨m - 3, by omega⟩
    obtain ⟨w, ha⟩ := H.a
    obtain ⟨w, he⟩ := H.e
    have he := ends_of he (.inl rfl) (by decide) (by decide)
    exact ⟨_, exp_name L (by omega) ha he.1 he.2⟩
  | k + 1, hk, m, hm => by
    obtain ⟨m, rfl⟩ : ∃ m', m = m' + 5 := ⟨m - 5, by omega⟩
    obtain ⟨v, hv⟩ := k2_ok H hn k (by omega) (m + 3) (by omega)
    obtain ⟨w, he⟩ := H.e
    have he := ends_of he (.inl rfl) (by decide) (by decide)
    obtain ⟨w0, h0⟩ := H.s (n - (k + 1)) (by omega)
    have hd : (((n - (k + 1) : Nat) : Int) + 1) = ((n - k : Nat) : Int) := by omega
    obtain ⟨x, y, hp⟩ := k2_part (m := m) (d := ((n - k : Nat) : Int)) H (j := n - (k + 1)) (by omega) (by omega)
    refine ⟨exM 9 eB 0 [x, y, v] w0, exp_ok L (m := m + 3) (by omega) ?_ he.2⟩
    rw [op_if (m := m + 3) h0, hd, hp w0, show 5 * (n - (k + 1)) + 5 = 5 * (n - k) by omega, bindG_of hv]
    rfl
theorem k2_er (H : K2 L n p) (hn : 300 ≤ n) : ∀ (k : Nat), k < 300 → ∀ m, 10 * k + 20 ≤ m → ∃ w, w = (tkAt L 1496).at_ ∧ expG L m ((299 - k : Nat) : Int) (5 * (299 - k)) = .err 111 w
  | 0, _, m, hm => by
    obtain ⟨m, rfl⟩ : ∃ m', m = m' + 3 := ⟨m - 3, by omega⟩
    obtain ⟨w0, h0⟩ := H.s 299 (by omega)
    refine ⟨_, rfl, exp_er L (m := m + 2) (by decide) ?_⟩
    rw [op_if (m := m + 1) h0]
    exact bindG_er (exp_deep L (by decide))
  | k + 1, hk, m, hm => by
    obtain ⟨m, rfl⟩ : ∃ m', m = m' + 5 := ⟨m - 5, by omega⟩
    obtain ⟨w, hw, hv⟩ := k2_er H hn k (by omega) (m + 3) (by omega)
    obtain ⟨w0, h0⟩ := H.s (299 - (k + 1)) (by omega)
    have hd : (((299 - (k + 1) : Nat) : Int) + 1) = ((299 - k : Nat) : Int) := by omega
    obtain ⟨x, y, hp⟩ := k2_part (m := m) (d := ((299 - k : Nat) : Int)) H (j := 299 - (k + 1)) (by omega) (by omega)
    refine ⟨w, hw, exp_er L (m := m + 4) (by omega) ?_⟩
    rw [op_if (m := m + 3) h0, hd, hp w0, show 5 * (299 - (k + 1)) + 5 = 5 * (299 - k) by omega]
    exact bindG_er hv
/-- binds -/
theorem op_let {m a : Nat} {d : Int} {w w2 w3 : Int} (h0 : tkAt L a = ⟨6, sLet, 0, w⟩) (h1 : tkAt L (a + 1) = ⟨1, ⟨#[121]⟩, 0, w2⟩) (h2 : tkAt L (a + 2) = ⟨7, sEq, 0, w3⟩) : operandG L (m + 3) d a = bindG (bindG (expG L m) fun e => pureG (Bd.mk ⟨#[121]⟩ e w2)) (fun b => bindG (andsG L (m + 1) [b]) fun l => bindG (takeG L 6 sIn) fun _ => bindG (expG L (m + 1)) fun e => pureG (.mk 7 eB 0 T00 [e] [] l w)) d (a + 3) := by
  have h : ∀ x, sLet ≠ x → isT L x a = false := fun x hx => by rw [isT_of L h0]; simp [hx]
  have ho : isT L sLet a = true := by rw [isT_of L h0]; decide
  have hr : ∀ x, isT L x (a + 1) = false := fun x => by rw [isT_of L h1]; rfl
  have h3 : isT L sEq (a + 2) = true := by rw [isT_of L h2]; decide
  rw [operandG]
  dsimp only [nextG]
  rw [mayG_no L (h _ (by decide)), mayG_is L ho, mayG_no L (hr _), letG, h0]
  have e : bdG L (m + 1) d (a + 1) = bindG (expG L m) (fun e => pureG (Bd.mk ⟨#[121]⟩ e w2)) d (a + 3) := by
    rw [bdG]
    have hn : nameG L d (a + 1) = .ok (tkAt L (a + 1)) (a + 2) := by
      unfold nameG
      rw [mayG_no L (hr _)]
      exact takeG_kind L (by decide) (by rw [h1])
    rw [bindG_of hn, bindG_of (takeG_is L (by decide) h3), h1]
  unfold bindG at e ⊢
  rw [e]
theorem k3_ok (H : K3 L n p) (hn : n < 300) : ∀ (k : Nat), k ≤ n → ∀ m, 10 * k + 10 ≤ m → ∃ v, expG L m ((n - k : Nat) : Int) (3 * (n - k)) = .ok v (3 * n + 1 + 2 * k)
  | 0, _, m, hm => by
    obtain ⟨m, rfl⟩ : ∃ m', m = m' + 3 := ⟨m - 3, by omega⟩
    have ha := H.a
    have he : Ends L (3 * n + 1) := by
      cases n with
      | zero => obtain ⟨w, he⟩ := H.e; exact ends_of he (.inl rfl) (by decide) (by decide)
      | succ n => obtain ⟨w, he⟩ := H.c 0 (by omega); exact ends_of he (.inr (by decide)) (by decide) (by decide)
    exact ⟨_, exp_name L (by omega) ha he.1 he.2⟩
  | k + 1, hk, m, hm => by
    obtain ⟨m, rfl⟩ : ∃ m', m = m' + 5 := ⟨m - 5, by omega⟩
    obtain ⟨v, hv⟩ := k3_ok H hn k (by omega) (m + 1) (by omega)
    have h0 := H.s (n - (k + 1)) (by omega)
    obtain ⟨w2, h1⟩ := H.x (n - (k + 1)) (by omega)
    obtain ⟨w3, h2⟩ := H.t (n - (k + 1)) (by omega)
    have hd : (((n - (k + 1) : Nat) : Int) + 1) = ((n - k : Nat) : Int) := by omega
    obtain ⟨w4, h4⟩ := H.c k (by omega)
    obtain ⟨w5, h5⟩ := H.y k (by omega)
    have he : Ends L (3 * n + 1 + 2 * k + 1 + 1) := by
      by_cases hl : k + 1 < n
      · obtain ⟨w, he⟩ := H.c (k + 1) hl
        rw [show 3 * n + 1 + 2 * k + 1 + 1 = 3 * n + 1 + 2 * (k + 1) by omega]
        exact ends_of he (.inr (by decide)) (by decide) (by decide)
      · obtain ⟨w, he⟩ := H.e
        rw [show 3 * n + 1 + 2 * k + 1 + 1 = 3 * n + 1 + 2 * n by omega]
        exact ends_of he (.inl rfl) (by decide) (by decide)
    have ia : isT L sAnd (3 * n + 1 + 2 * k) = false := by rw [isT_of L h4]; decide
    have ii : isT L sIn (3 * n + 1 + 2 * k) = true := by rw [isT_of L h4]; decide
    refine ⟨.mk 7 eB 0 T00 [exM 3 ⟨#[121]⟩ 0 [] w5] [] [.mk ⟨#[121]⟩ v w2] (p (n - (k + 1))), exp_ok L (m := m + 3) (by omega) ?_ he.2⟩
    rw [op_let (m := m + 1) h0 h1 h2, hd, show 3 * (n - (k + 1)) + 3 = 3 * (n - k) by omega]
    have hb : bindG (expG L (m + 1)) (fun e => pureG (Bd.mk ⟨#[121]⟩ e w2)) ((n - k : Nat) : Int) (3 * (n - k)) = .ok (Bd.mk ⟨#[121]⟩ v w2) (3 * n + 1 + 2 * k) := by
      rw [bindG_of hv]; rfl
    have ha : andsG L (m + 2) [Bd.mk ⟨#[121]⟩ v w2] ((n - k : Nat) : Int) (3 * n + 1 + 2 * k) = .ok [Bd.mk ⟨#[121]⟩ v w2] (3 * n + 1 + 2 * k) := by
      rw [andsG, mayG_no L ia]; rfl
    obtain ⟨m, rfl⟩ : ∃ m', m = m' + 1 := ⟨m - 1, by omega⟩
    rw [bindG_of hb, bindG_of ha, bindG_of (takeG_is L (by decide) ii), bindG_of (exp_name L (by omega) h5 he.1 he.2)]
    rfl
theorem k3_er (H : K3 L n p) (hn : 300 ≤ n) : ∀ (k : Nat), k ≤ 300 → ∀ m, 10 * k + 10 ≤ m → ∃ w, w = (tkAt L 900).at_ ∧ expG L m ((300 - k : Nat) : Int) (3 * (300 - k)) = .err 111 w
  | 0, _, m, hm => by
    obtain ⟨m, rfl⟩ : ∃ m', m = m' + 1 := ⟨m - 1, by omega⟩
    exact ⟨_, rfl, exp_deep L (by decide)⟩
  | k + 1, hk, m, hm => by
    obtain ⟨m, rfl⟩ : ∃ m', m = m' + 4 := ⟨m - 4, by omega⟩
    obtain ⟨w, hw, hv⟩ := k3_er H hn k (by omega) m (by omega)
    have h0 := H.s (300 - (k + 1)) (by omega)
    obtain ⟨w2, h1⟩ := H.x (300 - (k + 1)) (by omega)
    obtain ⟨w3, h2⟩ := H.t (300 - (k + 1)) (by omega)
    refine ⟨w, hw, exp_er L (m := m + 3) (by omega) ?_⟩
    rw [op_let h0 h1 h2, show (((300 - (k + 1) : Nat) : Int) + 1) = ((300 - k : Nat) : Int) by omega, show 3 * (300 - (k + 1)) + 3 = 3 * (300 - k) by omega]
    exact bindG_er (bindG_er hv)
end
set_option linter.all false
open Lx
theorem scan_of {b : ByteArray} {l : List UInt8} {ts : List LTok} {f : Nat} (hb : b.data.toList = l) (hs : b.size ≤ 60000) (hl : ∀ c ∈ l, c.toNat < 128) (hf : l.length < f) (h : scanL f (skipC false l) = .ok ts) : scanT b = .ok (ts.map (mkT b)) := by
  have hz : b.data.toList.length = b.size := rfl
  have h1 := skipC_length false l
  rw [scanT_form b hs, hb]
  have e1 : spoilAll l = none := spoil_low _ _ hl
  rw [e1]
  have e2 : D b (skipPos b 0) = skipC false l := by rw [← hb]; exact drop_skipPos b 0
  have e3 : scanL (b.size + 1) (skipC false l) = .ok ts := by
    rw [scanL_two (b.size + 1) f _ (by rw [hb] at hz; omega) (by omega)]; exact h
  simp only [e2, e3]
theorem tk_of {b : ByteArray} {ts : List LTok} {a : Nat} {t : LTok} (h : ts[a]? = some t) : tkAt (ts.map (mkT b)) a = mkT b t := by
  unfold tkAt; rw [List.getElem?_map, h]; rfl
theorem mk_of (b : ByteArray) (k : Int) (x : List UInt8) (n : Int) (r : Nat) : mkT b (k, x, n, r) = ⟨k, textOf x, n, ((b.size - r : Nat) : Int)⟩ := rfl
theorem rep_mem {n : Nat} {s : List UInt8} {c : UInt8} (h : c ∈ rep n s) : c ∈ s := by
  unfold rep at h
  rw [List.mem_flatten] at h
  obtain ⟨l, hl, hc⟩ := h
  rw [List.eq_of_mem_replicate hl] at hc
  exact hc
theorem all_low {s : List UInt8} (h : (s.all fun c => decide (c.toNat < 128)) = true) : ∀ c ∈ s, c.toNat < 128 := fun c hc => by
  have := List.all_eq_true.1 h c hc
  simpa using this
theorem low_of (n : Nat) (st tl : List UInt8) (h1 : (st.all fun c => decide (c.toNat < 128)) = true) (h2 : (tl.all fun c => decide (c.toNat < 128)) = true) (k : Nat) : ∀ c ∈ rep n st ++ 97 :: rep k tl, c.toNat < 128 := by
  intro c hc
  rcases List.mem_append.1 hc with h | h
  · exact all_low h1 c (rep_mem h)
  · rcases List.mem_cons.1 h with rfl | h
    · decide
    · exact all_low h2 c (rep_mem h)
section
variable {n : Nat} {b : ByteArray}
theorem size_of {l : List UInt8} (hb : b.data.toList = l) : b.size = l.length := by
  have hz : b.data.toList.length = b.size := rfl
  rw [← hz, hb]
theorem K0_of (hn : n ≤ 600) (hb : b.data.toList = rep n st0 ++ 97 :: rep n [41]) : ∃ L, scanT b = .ok L ∧ K0 L n (fun j => (j : Int)) := by
  have hz := size_of hb
  have hlen : (rep n st0 ++ 97 :: rep n [41]).length = 2 * n + 1 := by
    simp only [List.length_append, List.length_cons, rep_len, st0, List.length_nil]; omega
  rw [hlen] at hz
  have h0 := scan_close0 n (2 * n + 2)
  have h1 := name1 (c := 97) (.inl rfl) (stop_rep0 n) h0
  have h2 := scan_steps st0 tk0 1 step0 n _ _ _ h1
  have hs := scan_of hb (by omega) (low_of n st0 [41] (by decide) (by decide) n) (by rw [hlen]; omega) h2
  have hr : (97 :: rep n [41]).length = n + 1 := by simp only [List.length_cons, rep_len, List.length_nil]; omega
  rw [hr, rep_len, show st0.length = 1 from rfl, show n * [(41 : UInt8)].length + 1 = n + 1 by simp] at hs
  refine ⟨_, hs, ?_, ?_, ?_, ?_⟩
  · intro j hj
    have := TL_get 1 tk0 1 (fun _ => rfl) (n + 1) ((1, [97], 0, n + 1) :: TL 1 tc0 n 0 [(0, [], 0, 0)]) n j 0 hj (by decide)
    rw [show 1 * j + 0 = j by omega] at this
    rw [tk_of this, mk_of]
    refine congrArg (Tk.mk 7 sOp 0) ?_
    first | omega | (simp only; omega)
  · have := TL_end 1 tk0 1 (fun _ => rfl) (n + 1) ((1, [97], 0, n + 1) :: TL 1 tc0 n 0 [(0, [], 0, 0)]) n 0
    rw [show 1 * n + 0 = n by omega] at this
    rw [tk_of this, mk_of]
    refine congrArg (Tk.mk 1 ⟨#[97]⟩ 0) ?_
    omega
  · intro j hj
    have := TL_end 1 tk0 1 (fun _ => rfl) (n + 1) ((1, [97], 0, n + 1) :: TL 1 tc0 n 0 [(0, [], 0, 0)]) n (1 + j)
    rw [show 1 * n + (1 + j) = n + 1 + j by omega, show ((1, [97], 0, n + 1) :: TL 1 tc0 n 0 [(0, [], 0, 0)] : List LTok)[1 + j]? = (TL 1 tc0 n 0 [(0, [], 0, 0)])[1 * j + 0]? by rw [show 1 + j = j + 1 by omega, List.getElem?_cons_succ, show 1 * j + 0 = j by omega], TL_get 1 tc0 1 (fun _ => rfl) 0 _ n j 0 hj (by decide)] at this
    exact ⟨_, by rw [tk_of this, mk_of]; rfl⟩
  · have := TL_end 1 tk0 1 (fun _ => rfl) (n + 1) ((1, [97], 0, n + 1) :: TL 1 tc0 n 0 [(0, [], 0, 0)]) n (1 + n)
    rw [show 1 * n + (1 + n) = n + 1 + n by omega, show ((1, [97], 0, n + 1) :: TL 1 tc0 n 0 [(0, [], 0, 0)] : List LTok)[1 + n]? = (TL 1 tc0 n 0 [(0, [], 0, 0)])[1 * n + 0]? by rw [show 1 + n = n + 1 by omega, List.getElem?_cons_succ, show 1 * n + 0 = n by omega], TL_end 1 tc0 1 (fun _ => rfl) 0 _ n 0] at this
    exact ⟨_, by rw [tk_of this, mk_of]; rfl⟩
theorem K1_of (hn : n ≤ 600) (hb : b.data.toList = rep n st1 ++ [97]) : ∃ L, scanT b = .ok L ∧ K1 L n (fun j => ((6 * j : Nat) : Int)) := by
  have hz := size_of hb
  have hlen : (rep n st1 ++ [97]).length = 6 * n + 1 := by
    simp only [List.length_append, List.length_cons, rep_len, st1, List.length_nil]; omega
  rw [hlen] at hz
  have h1 := name1 (c := 97) (.inl rfl) .nil (scan_end (6 * n + 2))
  have h2 := scan_steps st1 tk1 3 step1 n _ _ _ h1
  have hl := low_of n st1 [41] (by decide) (by decide) 0
  rw [rep_zero] at hl
  have hs := scan_of hb (by omega) hl (by rw [hlen]; omega) h2
  rw [show st1.length = 6 from rfl, show [(97 : UInt8)].length = 1 from rfl, show ([] : List UInt8).length + 1 = 1 from rfl] at hs
  have tok : ∀ j i, j < n → i < 3 → ∀ t, (tk1 ((n - j - 1) * 6 + 1))[i]? = some t → tkAt ((TL 6 tk1 n 1 [(1, [97], 0, 1), (0, [], 0, 0)]).map (mkT b)) (3 * j + i) = mkT b t := fun j i hj hi t ht => tk_of ((TL_get 6 tk1 3 (fun _ => rfl) 1 _ n j i hj hi).trans ht)
  refine ⟨_, hs, ?_, ?_, ?_, ?_, ?_⟩
  · intro j hj
    rw [show 3 * j = 3 * j + 0 by omega, tok j 0 hj (by decide) _ rfl, mk_of]
    refine congrArg (Tk.mk 7 sBs 0) ?_
    first | omega | (simp only; omega)
  · intro j hj
    exact ⟨_, by rw [tok j 1 hj (by decide) _ rfl, mk_of]; rfl⟩
  · intro j hj
    exact ⟨_, by rw [tok j 2 hj (by decide) _ rfl, mk_of]; rfl⟩
  · have := TL_end 6 tk1 3 (fun _ => rfl) 1 [(1, [97], 0, 1), (0, [], 0, 0)] n 0
    rw [show 3 * n + 0 = 3 * n by omega] at this
    rw [tk_of this, mk_of]
    refine congrArg (Tk.mk 1 ⟨#[97]⟩ 0) ?_
    first | omega | (simp only; omega)
  · have := TL_end 6 tk1 3 (fun _ => rfl) 1 [(1, [97], 0, 1), (0, [], 0, 0)] n 1
    exact ⟨_, by rw [tk_of this, mk_of]; rfl⟩
theorem K2_of (hn : n ≤ 600) (hb : b.data.toList = rep n st2 ++ [97]) : ∃ L, scanT b = .ok L ∧ K2 L n (fun j => ((17 * j + 3 : Nat) : Int)) := by
  have hz := size_of hb
  have hlen : (rep n st2 ++ [97]).length = 17 * n + 1 := by
    simp only [List.length_append, List.length_cons, rep_len, st2, List.length_nil]; omega
  rw [hlen] at hz
  have h1 := name1 (c := 97) (.inl rfl) .nil (scan_end (17 * n + 2))
  have h2 := scan_steps st2 tk2 5 step2 n _ _ _ h1
  have hl := low_of n st2 [41] (by decide) (by decide) 0
  rw [rep_zero] at hl
  have hs := scan_of hb (by omega) hl (by rw [hlen]; omega) h2
  rw [show st2.length = 17 from rfl, show [(97 : UInt8)].length = 1 from rfl, show ([] : List UInt8).length + 1 = 1 from rfl] at hs
  have tok : ∀ j i, j < n → i < 5 → ∀ t, (tk2 ((n - j - 1) * 17 + 1))[i]? = some t → tkAt ((TL 17 tk2 n 1 [(1, [97], 0, 1), (0, [], 0, 0)]).map (mkT b)) (5 * j + i) = mkT b t := fun j i hj hi t ht => tk_of ((TL_get 17 tk2 5 (fun _ => rfl) 1 _ n j i hj hi).trans ht)
  refine ⟨_, hs, ?_, ?_, ?_, ?_, ?_, ?_, ?_⟩
  · intro j hj
    exact ⟨_, by rw [show 5 * j = 5 * j + 0 by omega, tok j 0 hj (by decide) _ rfl, mk_of]; rfl⟩
  · intro j hj
    rw [tok j 1 hj (by decide) _ rfl, mk_of]
    refine congrArg (Tk.mk 1 ⟨#[97]⟩ 0) ?_
    first | omega | (simp only; omega)
  · intro j hj
    exact ⟨_, by rw [tok j 2 hj (by decide) _ rfl, mk_of]; rfl⟩
  · intro j hj
    exact ⟨_, by rw [tok j 3 hj (by decide) _ rfl, mk_of]; rfl⟩
  · intro j hj
    exact ⟨_, by rw [tok j 4 hj (by decide) _ rfl, mk_of]; rfl⟩
  · have := TL_end 17 tk2 5 (fun _ => rfl) 1 [(1, [97], 0, 1), (0, [], 0, 0)] n 0
    rw [show 5 * n + 0 = 5 * n by omega] at this
    exact ⟨_, by rw [tk_of this, mk_of]; rfl⟩
  · have := TL_end 17 tk2 5 (fun _ => rfl) 1 [(1, [97], 0, 1), (0, [], 0, 0)] n 1
    exact ⟨_, by rw [tk_of this, mk_of]; rfl⟩
theorem K3_of (hn : n ≤ 600) (hb : b.data.toList = rep n st3 ++ 97 :: rep n tlt) : ∃ L, scanT b = .ok L ∧ K3 L n (fun j => ((8 * j : Nat) : Int)) := by
  have hz := size_of hb
  have hlen : (rep n st3 ++ 97 :: rep n tlt).length = 13 * n + 1 := by
    simp only [List.length_append, List.length_cons, rep_len, st3, tlt, List.length_nil]; omega
  rw [hlen] at hz
  have h0 := scan_close3 n (13 * n + 2)
  have h1 := name1 (c := 97) (.inl rfl) (stop_rep3 n) h0
  have h2 := scan_steps st3 tk3 3 step3 n _ _ _ h1
  have hs := scan_of hb (by omega) (low_of n st3 tlt (by decide) (by decide) n) (by rw [hlen]; omega) h2
  have hr : (97 :: rep n tlt).length = 5 * n + 1 := by simp only [List.length_cons, rep_len, tlt, List.length_nil]; omega
  rw [hr, rep_len, show st3.length = 8 from rfl, show n * tlt.length + 1 = 5 * n + 1 by simp only [tlt, List.length_cons, List.length_nil]; omega] at hs
  generalize hT : ((1, [97], 0, 5 * n + 1) :: TL 5 tc3 n 0 [(0, [], 0, 0)] : List LTok) = T at hs
  have tok : ∀ j i, j < n → i < 3 → ∀ t, (tk3 ((n - j - 1) * 8 + (5 * n + 1)))[i]? = some t → tkAt ((TL 8 tk3 n (5 * n + 1) T).map (mkT b)) (3 * j + i) = mkT b t := fun j i hj hi t ht => tk_of ((TL_get 8 tk3 3 (fun _ => rfl) _ _ n j i hj hi).trans ht)
  have tok2 : ∀ j i, j < n → i < 2 → ∀ t, (tc3 ((n - j - 1) * 5 + 0))[i]? = some t → tkAt ((TL 8 tk3 n (5 * n + 1) T).map (mkT b)) (3 * n + 1 + 2 * j + i) = mkT b t := fun j i hj hi t ht => tk_of (by
    rw [show 3 * n + 1 + 2 * j + i = 3 * n + (2 * j + i + 1) by omega, TL_end 8 tk3 3 (fun _ => rfl), ← hT, List.getElem?_cons_succ]
    exact (TL_get 5 tc3 2 (fun _ => rfl) _ _ n j i hj hi).trans ht)
  refine ⟨_, hs, ?_, ?_, ?_, ?_, ?_, ?_, ?_⟩
  · intro j hj
    rw [show 3 * j = 3 * j + 0 by omega, tok j 0 hj (by decide) _ rfl, mk_of]
    refine congrArg (Tk.mk 6 sLet 0) ?_
    first | omega | (simp only; omega)
  · intro j hj
    exact ⟨_, by rw [tok j 1 hj (by decide) _ rfl, mk_of]; rfl⟩
  · intro j hj
    exact ⟨_, by rw [tok j 2 hj (by decide) _ rfl, mk_of]; rfl⟩
  · have := TL_end 8 tk3 3 (fun _ => rfl) (5 * n + 1) T n 0
    rw [show 3 * n + 0 = 3 * n by omega] at this
    rw [tk_of (this.trans (by rw [← hT]; rfl)), mk_of]
    refine congrArg (Tk.mk 1 ⟨#[97]⟩ 0) ?_
    first | omega | (simp only; omega)
  · intro j hj
    exact ⟨_, by rw [show 3 * n + 1 + 2 * j = 3 * n + 1 + 2 * j + 0 by omega, tok2 j 0 hj (by decide) _ rfl, mk_of]; rfl⟩
  · intro j hj
    exact ⟨_, by rw [tok2 j 1 hj (by decide) _ rfl, mk_of]; rfl⟩
  · have h : (TL 8 tk3 n (5 * n + 1) T)[3 * n + 1 + 2 * n]? = some (0, [], 0, 0) := by
      rw [show 3 * n + 1 + 2 * n = 3 * n + (2 * n + 0 + 1) by omega, TL_end 8 tk3 3 (fun _ => rfl), ← hT, List.getElem?_cons_succ]
      exact (TL_end 5 tc3 2 (fun _ => rfl) 0 [(0, [], 0, 0)] n 0).trans rfl
    exact ⟨_, by rw [tk_of h, mk_of]; rfl⟩
end
/-- what the parser of the grammar says of n steps: its answer, or the place of the first that is too deep -/
def Deep (b : ByteArray) (n : Nat) (first : Int) : Prop := ∃ L m, scanT b = .ok L ∧ if n < 300 then ∃ v e, expG L m 0 0 = .ok v e ∧ (tkAt L e).kind = 0 else expG L m 0 0 = .err 111 first
theorem deep0 {n : Nat} {b : ByteArray} (hn : n ≤ 600) (hb : b.data.toList = rep n st0 ++ 97 :: rep n [41]) : Deep b n 300 := by
  obtain ⟨L, hs, H⟩ := K0_of hn hb
  refine ⟨L, 10 * (n + 300) + 10, hs, ?_⟩
  split
  · rename_i h
    obtain ⟨v, hv⟩ := k0_ok H h n (Nat.le_refl _) (10 * (n + 300) + 10) (by omega)
    rw [Nat.sub_self] at hv
    obtain ⟨w, he⟩ := H.e
    exact ⟨v, _, hv, by rw [he]⟩
  · rename_i h
    obtain ⟨w, rfl, hv⟩ := k0_er H (by omega) 300 (Nat.le_refl _) (10 * (n + 300) + 10) (by omega)
    refine hv.trans (congrArg (Rz.err 111) ?_)
    by_cases h3 : 300 < n
    · rw [H.s 300 h3]; rfl
    · have := H.a
      rw [show n = 300 by omega] at this
      rw [this]; rfl
theorem deep1 {n : Nat} {b : ByteArray} (hn : n ≤ 600) (hb : b.data.toList = rep n st1 ++ [97]) : Deep b n 1800 := by
  obtain ⟨L, hs, H⟩ := K1_of hn hb
  refine ⟨L, 10 * (n + 300) + 10, hs, ?_⟩
  split
  · rename_i h
    obtain ⟨v, hv⟩ := k1_ok H h n (Nat.le_refl _) (10 * (n + 300) + 10) (by omega)
    rw [Nat.sub_self] at hv
    obtain ⟨w, he⟩ := H.e
    exact ⟨v, _, hv, by rw [he]⟩
  · rename_i h
    obtain ⟨w, rfl, hv⟩ := k1_er H (by omega) 300 (Nat.le_refl _) (10 * (n + 300) + 10) (by omega)
    refine hv.trans (congrArg (Rz.err 111) ?_)
    by_cases h3 : 300 < n
    · rw [show 900 = 3 * 300 from rfl, H.s 300 h3]; rfl
    · have := H.a
      rw [show n = 300 by omega] at this
      rw [show 900 = 3 * 300 from rfl, this]; rfl
theorem deep2 {n : Nat} {b : ByteArray} (hn : n ≤ 600) (hb : b.data.toList = rep n st2 ++ [97]) : Deep b n 5086 := by
  obtain ⟨L, hs, H⟩ := K2_of hn hb
  refine ⟨L, 10 * (n + 300) + 20, hs, ?_⟩
  split
  · rename_i h
    obtain ⟨v, hv⟩ := k2_ok H h n (Nat.le_refl _) (10 * (n + 300) + 20) (by omega)
    rw [Nat.sub_self] at hv
    obtain ⟨w, he⟩ := H.e
    exact ⟨v, _, hv, by rw [he]⟩
  · rename_i h
    obtain ⟨w, rfl, hv⟩ := k2_er H (by omega) 299 (by decide) (10 * (n + 300) + 20) (by omega)
    refine hv.trans (congrArg (Rz.err 111) ?_)
    rw [show 1496 = 5 * 299 + 1 from rfl, H.x 299 (by omega)]; rfl
theorem deep3 {n : Nat} {b : ByteArray} (hn : n ≤ 600) (hb : b.data.toList = rep n st3 ++ 97 :: rep n tlt) : Deep b n 2400 := by
  obtain ⟨L, hs, H⟩ := K3_of hn hb
  refine ⟨L, 10 * (n + 300) + 10, hs, ?_⟩
  split
  · rename_i h
    obtain ⟨v, hv⟩ := k3_ok H h n (Nat.le_refl _) (10 * (n + 300) + 10) (by omega)
    rw [Nat.sub_self] at hv
    obtain ⟨w, he⟩ := H.e
    exact ⟨v, _, hv, by rw [he]⟩
  · rename_i h
    obtain ⟨w, rfl, hv⟩ := k3_er H (by omega) 300 (Nat.le_refl _) (10 * (n + 300) + 10) (by omega)
    refine hv.trans (congrArg (Rz.err 111) ?_)
    by_cases h3 : 300 < n
    · rw [show 900 = 3 * 300 from rfl, H.s 300 h3]; rfl
    · have := H.a
      rw [show n = 300 by omega] at this
      rw [show 900 = 3 * 300 from rfl, this]; rfl
end Go.Proofs.YtfphhabaeggenaaDoor
