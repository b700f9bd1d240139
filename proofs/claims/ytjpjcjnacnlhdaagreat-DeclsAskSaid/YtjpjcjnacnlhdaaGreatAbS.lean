/- What the facts of a tree say at values. -/
import Derived.Test.YtjpjcjnacnlhdaaGreatAbU
namespace Go.Proofs.YtjpjcjnacnlhdaaGreat
open Go.RowKit

abbrev iv (n : Int) : PV := .lit (.int .i64 n)
abbrev sv (s : ByteArray) : PV := .lit (.string s)
abbrev bv (b : Bool) : PV := .lit (.bool b)
@[simp] theorem ns_lit (v : Value) : NS (.lit v) := .lit v
@[simp] theorem nm_zero (a : PV) (l : List PV) : nm (a :: l) 0 = a := rfl
@[simp] theorem nm_succ (a : PV) (l : List PV) (n : Nat) : nm (a :: l) (n + 1) = nm l n := rfl
theorem NSL.cons {a : PV} {l : List PV} (h : NS a) (hl : NSL l) : NSL (a :: l) := fun p hp => by
  rcases List.mem_cons.1 hp with rfl | hp
  · exact h
  · exact hl p hp
theorem NSL.nil : NSL [] := fun p hp => by cases hp
theorem NSL_cons {a : PV} {l : List PV} : NSL (a :: l) ↔ NS a ∧ NSL l := ⟨fun h => ⟨h a (List.mem_cons_self ..), fun p hp => h p (List.mem_cons_of_mem _ hp)⟩, fun h => NSL.cons h.1 h.2⟩
theorem NSL_nil : NSL [] ↔ True := ⟨fun _ => trivial, fun _ => NSL.nil⟩
/-! Binary operations. -/
def BinOk (P : Program) (b : BinOp) (t : TypeId) (u v r : AV) : Prop := ∀ x y, binA P b t x y u v = some r
theorem ok_bin {R : Nat → PV} {P : Program} {b : BinOp} {t : TypeId} {u v r : AV} : (SF.bin b t u v r).ok R P ↔ BinOk P b t (openAV R u) (openAV R v) (openAV R r) := Iff.rfl
theorem BinOk.iff {P : Program} {b : BinOp} {t : TypeId} {u v r w : AV} (h : ∀ x y, binA P b t x y u v = some w) : BinOk P b t u v r ↔ r = w := by
  constructor
  · intro hr
    have := hr (.tmp 0) (.tmp 0)
    rw [h] at this
    exact (Option.some.inj this).symm
  · intro hr x y; rw [hr, h]
section
variable {P : Program} {t : TypeId} {r : AV} {a b : Int}
theorem bin_lss : BinOk P .lss t (.pv (.lit (.int .i64 a))) (.pv (.lit (.int .i64 b))) r ↔ r = .pv (.lit (.bool (decide (a < b)))) := BinOk.iff fun _ _ => rfl
theorem bin_leq : BinOk P .leq t (.pv (.lit (.int .i64 a))) (.pv (.lit (.int .i64 b))) r ↔ r = .pv (.lit (.bool (decide (a ≤ b)))) := BinOk.iff fun _ _ => rfl
theorem bin_gtr : BinOk P .gtr t (.pv (.lit (.int .i64 a))) (.pv (.lit (.int .i64 b))) r ↔ r = .pv (.lit (.bool (decide (b < a)))) := BinOk.iff fun _ _ => rfl
theorem bin_geq : BinOk P .geq t (.pv (.lit (.int .i64 a))) (.pv (.lit (.int .i64 b))) r ↔ r = .pv (.lit (.bool (decide (b ≤ a)))) := BinOk.iff fun _ _ => rfl
theorem bin_eql : BinOk P .eql t (.pv (.lit (.int .i64 a))) (.pv (.lit (.int .i64 b))) r ↔ r = .pv (.lit (.bool (decide (a = b)))) := BinOk.iff fun _ _ => by
  have e : (a == b) = decide (a = b) := by by_cases h : a = b <;> simp [h]
  rw [← e]; rfl
theorem bin_neq : BinOk P .neq t (.pv (.lit (.int .i64 a))) (.pv (.lit (.int .i64 b))) r ↔ r = .pv (.lit (.bool (decide (a ≠ b)))) := BinOk.iff fun _ _ => by
  have e : (a != b) = decide (a ≠ b) := by by_cases h : a = b <;> simp [h]
  rw [← e]; rfl
theorem bin_add : BinOk P .add t (.pv (.lit (.int .i64 a))) (.pv (.lit (.int .i64 b))) r ↔ r = .pv (.lit (.int .i64 (IntKind.i64.wrap (a + b)))) := BinOk.iff fun _ _ => rfl
theorem bin_sub : BinOk P .sub t (.pv (.lit (.int .i64 a))) (.pv (.lit (.int .i64 b))) r ↔ r = .pv (.lit (.int .i64 (IntKind.i64.wrap (a - b)))) := BinOk.iff fun _ _ => rfl
theorem eqS_dec (x y : ByteArray) : eqS x y = decide (x = y) := by
  by_cases h : x = y
  · rw [decide_eq_true h]; subst h
    unfold eqS
    rw [eqL_iff]
  · rw [decide_eq_false h]
    cases he : eqS x y with
    | false => rfl
    | true => exact absurd (eqS_eq' he) h
theorem bin_eqs {x y : ByteArray} : BinOk P .eql t (.pv (.lit (.string x))) (.pv (.lit (.string y))) r ↔ r = .pv (.lit (.bool (decide (x = y)))) := BinOk.iff fun _ _ => by
  rw [← eqS_dec]; rfl
theorem bin_nes {x y : ByteArray} : BinOk P .neq t (.pv (.lit (.string x))) (.pv (.lit (.string y))) r ↔ r = .pv (.lit (.bool (decide (x ≠ y)))) := BinOk.iff fun _ _ => by
  have : decide (x ≠ y) = !(decide (x = y)) := by by_cases h : x = y <;> simp [h]
  rw [this, ← eqS_dec]; rfl
end
theorem wrap_id {n : Int} (h : -9223372036854775808 ≤ n ∧ n ≤ 9223372036854775807) : IntKind.i64.wrap n = n := by rw [IntKind.wrap_i64]; omega
/-! Rows. A slice type: its element, the element's cells and bytes. -/
structure SlT (P : Program) (t : TypeId) (sz by_ : Nat) : Prop where
  e : ∃ e zc, P.underlying t = some (.slice e) ∧ szA P e = some sz ∧ bytesA P e = some by_ ∧ zeroA P e = some zc ∧ zc.length = sz
  pos : 0 < sz
def slTB (P : Program) (t : TypeId) (sz by_ : Nat) : Bool := match P.underlying t with
  | some (.slice e) => match szA P e, bytesA P e, zeroA P e with
    | some s, some b, some zc => Nat.beq s sz && Nat.beq b by_ && Nat.beq zc.length sz && Nat.blt 0 sz
    | _, _, _ => false
  | _ => false
theorem SlT.of {P : Program} {t : TypeId} {sz by_ : Nat} (h : slTB P t sz by_ = true) : SlT P t sz by_ := by
  unfold slTB at h
  split at h
  · rename_i e he
    split at h
    · rename_i s b zc h1 h2 h3
      simp only [Bool.and_eq_true] at h
      obtain ⟨⟨⟨e1, e2⟩, e3⟩, e4⟩ := h
      rw [Nat.eq_of_beq_eq_true e1] at h1
      rw [Nat.eq_of_beq_eq_true e2] at h2
      exact ⟨⟨e, zc, he, h1, h2, h3, Nat.eq_of_beq_eq_true e3⟩, Nat.le_of_ble_eq_true e4⟩
    · cases h
  · cases h
def LenOk (P : Program) (t : TypeId) (u r : AV) : Prop := ∀ ty, builtinA P .len #[t] ty [u] = some r
theorem ok_len {R : Nat → PV} {P : Program} {t : TypeId} {u r : AV} : (SF.len t u r).ok R P ↔ LenOk P t (openAV R u) (openAV R r) := Iff.rfl
def MxOk (P : Program) (mn : Bool) (u v r : AV) : Prop := ∀ ts ty, builtinA P (if mn then .min else .max) ts ty [u, v] = some r
theorem ok_mx {R : Nat → PV} {P : Program} {mn : Bool} {u v r : AV} : (SF.mx mn u v r).ok R P ↔ MxOk P mn (openAV R u) (openAV R v) (openAV R r) := Iff.rfl
theorem mx_max {P : Program} {a b : Int} {r : AV} : MxOk P false (.pv (.lit (.int .i64 a))) (.pv (.lit (.int .i64 b))) r ↔ r = .pv (.lit (.int .i64 (max a b))) := by
  have e : ∀ ts ty, builtinA P .max ts ty [.pv (.lit (.int .i64 a)), .pv (.lit (.int .i64 b))] = some (.pv (.lit (.int .i64 (max a b)))) := by
    intro ts ty
    have : max a b = if b > a then b else a := by omega
    rw [this]; rfl
  constructor
  · intro h; have := h #[] 0; simp only [Bool.false_eq_true, if_false, e] at this; exact (Option.some.inj this).symm
  · intro h ts ty; simp only [Bool.false_eq_true, if_false, e, h]
theorem mx_min {P : Program} {a b : Int} {r : AV} : MxOk P true (.pv (.lit (.int .i64 a))) (.pv (.lit (.int .i64 b))) r ↔ r = .pv (.lit (.int .i64 (min a b))) := by
  have e : ∀ ts ty, builtinA P .min ts ty [.pv (.lit (.int .i64 a)), .pv (.lit (.int .i64 b))] = some (.pv (.lit (.int .i64 (min a b)))) := by
    intro ts ty
    have : min a b = if b < a then b else a := by omega
    rw [this]; rfl
  constructor
  · intro h; have := h #[] 0; simp only [if_true, e] at this; exact (Option.some.inj this).symm
  · intro h ts ty; simp only [if_true, e, h]
def IdxOk (P : Program) (t : TypeId) (u i r : AV) : Prop := ∃ n, intV i = some n ∧ indexAtA P t u n = some r
theorem ok_idx {R : Nat → PV} {P : Program} {t : TypeId} {u i r : AV} : (SF.idx t u i r).ok R P ↔ IdxOk P t (openAV R u) (openAV R i) (openAV R r) := Iff.rfl
def SlcOk (P : Program) (t : TypeId) (u : AV) (lo hi : Option AV) (r : AV) : Prop := ∀ (ρ : Operand → Option AV) (l m : Option Operand), MatchO ρ l lo → MatchO ρ m hi → sliceA P t ρ u l m none = some r
theorem ok_slc {R : Nat → PV} {P : Program} {t : TypeId} {u r : AV} {lo hi : Option AV} : (SF.slc t u lo hi r).ok R P ↔ SlcOk P t (openAV R u) (lo.map (openAV R)) (hi.map (openAV R)) (openAV R r) := Iff.rfl
def AppOk (P : Program) (t : TypeId) (s x : AV) (r : PV) : Prop := ∃ e sz by_ zc es es', P.underlying t = some (.slice e) ∧ szA P e = some sz ∧ bytesA P e = some by_ ∧ zeroA P e = some zc ∧ 0 < sz ∧ zc.length = sz ∧
      rowsN s = some es ∧ rowsOf x = some es' ∧ es' ≠ [] ∧ (∀ c ∈ es', c.length = sz) ∧ es.length + es'.length ≤ 1000000000000 ∧ (es.length + es'.length) * by_ ≤ 140737488355328 ∧ r = .rows (es ++ es')
theorem ok_app {R : Nat → PV} {P : Program} {t : TypeId} {s x : AV} {j : Nat} : (SF.app t s x j).ok R P ↔ AppOk P t (openAV R s) (openAV R x) (R j) := Iff.rfl
def App0Ok (P : Program) (t : TypeId) (s x : AV) : Prop := ∃ e sz by_ zc, P.underlying t = some (.slice e) ∧ szA P e = some sz ∧ bytesA P e = some by_ ∧ zeroA P e = some zc ∧ (rowsN s).isSome = true ∧ rowsN x = some []
theorem ok_app0 {R : Nat → PV} {P : Program} {t : TypeId} {s x : AV} : (SF.app0 t s x).ok R P ↔ App0Ok P t (openAV R s) (openAV R x) := Iff.rfl
section
variable {P : Program} {t : TypeId} {sz by_ : Nat} {r : AV}
theorem len_ok (ht : SlT P t sz by_) (es : List (List PV)) : LenOk P t (.pv (.rows es)) r ↔ r = .pv (.lit (.int .i64 es.length)) := by
  obtain ⟨⟨e, zc, h1, _⟩, _⟩ := ht
  have hl : ∀ ty, builtinA P .len #[t] ty [.pv (.rows es)] = some (.pv (.lit (.int .i64 es.length))) := by
    intro ty
    have : lenA P #[t] (.pv (.rows es)) = some (.pv (.lit (.int .i64 es.length))) := by
      unfold lenA
      simp [rowsOf, h1]
    show (match lenA P #[t] (.pv (.rows es)) with | some r => some r | none => _) = _
    rw [this]
  constructor
  · intro h; have := h 0; rw [hl] at this; exact (Option.some.inj this).symm
  · intro h ty; rw [hl, h]
theorem idx_ok (ht : SlT P t sz by_) {es : List (List PV)} {k : Nat} {c : List PV} (hc : es[k]? = some c) (hs : c.length = sz) : IdxOk P t (.pv (.rows es)) (.pv (.lit (.int .i64 (k : Int)))) r ↔ r = .cptr c := by
  obtain ⟨⟨e, zc, h1, h2, _⟩, _⟩ := ht
  have hi : indexAtA P t (.pv (.rows es)) (k : Int) = some (.cptr c) := by
    unfold indexAtA
    simp [rowsOf, h1, hc, h2, hs]
  constructor
  · rintro ⟨n, hn, h⟩
    have : n = (k : Int) := (Option.some.inj hn).symm
    subst this
    rw [hi] at h
    exact (Option.some.inj h).symm
  · rintro rfl; exact ⟨k, rfl, hi⟩
theorem slc_from (ht : SlT P t sz by_) {es : List (List PV)} {l : Nat} (hl : l ≤ es.length) (hs : ∀ c ∈ es, c.length = sz) : SlcOk P t (.pv (.rows es)) (some (.pv (.lit (.int .i64 (l : Int))))) none (.pv (.rows (es.drop l))) := by
  obtain ⟨⟨e, zc, h1, h2, _⟩, _⟩ := ht
  intro ρ a b ha hb
  cases a with
  | none => cases ha
  | some x =>
    cases b with
    | some _ => cases hb
    | none =>
      have hx : ρ x = some (.pv (.lit (.int .i64 (l : Int)))) := ha
      have hc : l = 0 ∨ es.head?.map List.length = some sz := by
        cases es with
        | nil => left; simpa using hl
        | cons c es => right; simp [hs c (List.mem_cons_self ..)]
      simp only [sliceA, rowsOf, h1, boundA, hx, intV, AV.val?, h2]
      have hn : (0 : Int) ≤ (l : Int) := by omega
      rw [if_pos hn]
      simp only [Int.toNat_natCast, h2]
      rw [if_pos ⟨hl, Nat.le_refl _, hc⟩]
      rw [List.take_of_length_le (by simp)]
theorem slc_to (ht : SlT P t sz by_) {es : List (List PV)} {m : Nat} (hm : m ≤ es.length) : SlcOk P t (.pv (.rows es)) none (some (.pv (.lit (.int .i64 (m : Int))))) (.pv (.rows (es.take m))) := by
  obtain ⟨⟨e, zc, h1, h2, _⟩, _⟩ := ht
  intro ρ a b ha hb
  cases b with
  | none => cases hb
  | some x =>
    cases a with
    | some _ => cases ha
    | none =>
      have hx : ρ x = some (.pv (.lit (.int .i64 (m : Int)))) := hb
      simp only [sliceA, rowsOf, h1, boundA, hx, intV, AV.val?, h2]
      have hn : (0 : Int) ≤ (m : Int) := by omega
      rw [if_pos hn]
      simp only [Int.toNat_natCast, h2]
      rw [if_pos ⟨Nat.zero_le _, hm, .inl trivial⟩]
      simp
theorem app_ok (ht : SlT P t sz by_) {s x : AV} {q : PV} {es es' : List (List PV)} (h1 : rowsN s = some es) (h2 : rowsOf x = some es') (hne : es' ≠ []) (hsz : ∀ c ∈ es', c.length = sz) (hb : es.length + es'.length ≤ 1000000000000) (hbb : (es.length + es'.length) * by_ ≤ 140737488355328) :
    AppOk P t s x q ↔ q = .rows (es ++ es') := by
  obtain ⟨⟨e, zc, g1, g2, g3, g4, g5⟩, g6⟩ := ht
  constructor
  · rintro ⟨e', sz', by', zc', es1, es1', _, _, _, _, _, _, k1, k2, _, _, _, _, k3⟩
    rw [h1] at k1
    rw [h2] at k2
    cases k1
    cases k2
    exact k3
  · intro h
    exact ⟨e, sz, by_, zc, es, es', g1, g2, g3, g4, g6, g5, h1, h2, hne, hsz, hb, hbb, h⟩
theorem app0_ok (ht : SlT P t sz by_) {s x : AV} {es : List (List PV)} (h1 : rowsN s = some es) (h2 : rowsN x = some []) : App0Ok P t s x := by
  obtain ⟨⟨e, zc, g1, g2, g3, g4, g5⟩, g6⟩ := ht
  exact ⟨e, sz, by_, zc, g1, g2, g3, g4, by rw [h1]; rfl, h2⟩
end
attribute [simp] Den exN openAV openAVs openPV openPs openPss openE openH openO TsA TsAs TsO TsH TsE isRow ok_bin ok_len ok_mx mx_max mx_min ok_idx ok_slc ok_app ok_app0 bin_lss bin_leq bin_gtr bin_geq bin_eql bin_neq bin_add bin_sub bin_eqs bin_nes NSL_cons NSL_nil and_assoc
theorem rowsN_rows' (es : List (List PV)) : rowsN (.pv (.rows es)) = some es := rfl
theorem rowsN_tok (t : Nat) (es : List (List PV)) : rowsN (.trows t es) = some es := rfl
theorem rowsN_nil : rowsN (.pv (.lit (.slice none 0 0))) = some [] := rfl
end Go.Proofs.YtjpjcjnacnlhdaaGreat
