/- Joined texts. -/
import Derived.Test.YtijcobeebaceoaaGreatDoorBf
namespace Go.Proofs.YtijcobeebaceoaaGreatDoor
open Go.RowKit
set_option linter.unusedSimpArgs false
set_option linter.unusedVariables false

/-- What a parser gives: nothing (the fuel is spent), a fault and its place, or a value and the place behind it. -/
inductive Rz (α : Type) where
  | out
  | err (e w : Int)
  | ok (v : α) (a : Nat)
def Rz.bind {α β : Type} (r : Rz α) (k : α → Nat → Rz β) : Rz β := match r with
  | .out => .out
  | .err e w => .err e w
  | .ok v a => k v a
@[simp] theorem Rz.bind_out {α β : Type} (k : α → Nat → Rz β) : (Rz.out : Rz α).bind k = .out := rfl
@[simp] theorem Rz.bind_err {α β : Type} (e w : Int) (k : α → Nat → Rz β) : (Rz.err e w : Rz α).bind k = .err e w := rfl
@[simp] theorem Rz.bind_ok {α β : Type} (v : α) (a : Nat) (k : α → Nat → Rz β) : (Rz.ok v a).bind k = k v a := rfl
section
variable (L : List Tk)
def tkAt (a : Nat) : Tk := (L[a]?).getD zT
def isT (x : ByteArray) (a : Nat) : Bool := decide (6 ≤ (tkAt L a).kind) && decide ((tkAt L a).text = x)
/-- May a type stand here as an argument? -/
def stT (a : Nat) : Bool := decide ((tkAt L a).kind = 1) || (decide ((tkAt L a).kind = 2) || isT L ⟨#[40]⟩ a)
abbrev sArr : ByteArray := ⟨#[45, 62]⟩
abbrev sOp : ByteArray := ⟨#[40]⟩
abbrev sCl : ByteArray := ⟨#[41]⟩
abbrev sUn : ByteArray := ⟨#[85, 110, 105, 116]⟩
/-- A token that must stand here. -/
def wantF (x : ByteArray) (a : Nat) : Rz Unit := if isT L x a then .ok () (a + 1) else .err 110 (tkAt L a).at_
mutual
def typeF : Nat → Int → Nat → Rz Ty
  | 0, _, _ => .out
  | n + 1, d, a => if 300 < d + 1 then .err 111 (tkAt L a).at_ else
    (if (tkAt L a).kind = 2 then (argsF n (d + 1) (a + 1) []).bind fun l b => .ok (.mk 3 (tkAt L a).text 0 l) b else atypeF n (d + 1) a).bind fun x b =>
      if isT L sArr b then (typeF n (d + 1) (b + 1)).bind fun y c => .ok (.mk 3 sArr 0 [x, y]) c else .ok x b
def atypeF : Nat → Int → Nat → Rz Ty
  | 0, _, _ => .out
  | n + 1, d, a => if (tkAt L a).kind = 2 then .ok (.mk 3 (tkAt L a).text 0 []) (a + 1)
    else if (tkAt L a).kind = 1 then .ok (.mk 1 (tkAt L a).text 0 []) (a + 1)
    else if isT L sOp a then
      if isT L sCl (a + 1) then .ok (.mk 3 sUn 0 []) (a + 2)
      else (typeF n d (a + 1)).bind fun x b => (wantF L sCl b).bind fun _ c => .ok x c
    else .err 110 (tkAt L a).at_
def argsF : Nat → Int → Nat → List Ty → Rz (List Ty)
  | 0, _, _, _ => .out
  | n + 1, d, a, l => if stT L a then (atypeF n d a).bind fun x b => argsF n d b (l ++ [x]) else .ok l a
end
def btypeF (n : Nat) (d : Int) (a : Nat) : Rz Ty := if (tkAt L a).kind = 2 then (argsF L n d (a + 1) []).bind fun l b => .ok (.mk 3 (tkAt L a).text 0 l) b else atypeF L n d a
theorem typeF_s (n : Nat) (d : Int) (a : Nat) : typeF L (n + 1) d a = if 300 < d + 1 then .err 111 (tkAt L a).at_ else
    (btypeF L n (d + 1) a).bind fun x b => if isT L sArr b then (typeF L n (d + 1) (b + 1)).bind fun y c => .ok (.mk 3 sArr 0 [x, y]) c else .ok x b := by
  rw [typeF]; rfl
/-- What comes of a source. -/
def endF (r : Rz Ty) : Rz Ty := r.bind fun x b => if (tkAt L b).kind = 0 then .ok x b else .err 110 (tkAt L b).at_
end
/-! Places. -/
section
variable {L : List Tk}
theorem tkAt_in {a : Nat} (h : (tkAt L a).kind ≠ 0) : a < L.length := by
  unfold tkAt at h
  by_cases hl : a < L.length
  · exact hl
  · rw [List.getElem?_eq_none (by omega)] at h
    exact absurd rfl h
theorem isT_in {x : ByteArray} {a : Nat} (h : isT L x a = true) : a < L.length := by
  unfold isT at h
  rw [Bool.and_eq_true, decide_eq_true_eq] at h
  exact tkAt_in (by omega)
theorem stT_in {a : Nat} (h : stT L a = true) : a < L.length := by
  unfold stT at h
  rw [Bool.or_eq_true, Bool.or_eq_true, decide_eq_true_eq, decide_eq_true_eq] at h
  rcases h with h | h | h
  · exact tkAt_in (by omega)
  · exact tkAt_in (by omega)
  · exact isT_in h
end
/-- The tokens end with one of kind 0, and there alone; all kinds are at most 7. -/
structure WfL (L : List Tk) : Prop where
  len : L.length ≤ 1000000
  pos : 0 < L.length
  fin : ∀ a, (tkAt L a).kind ≠ 0 → a + 1 < L.length
  top : ∀ a, (tkAt L a).kind ≤ 7
  k6 : ∀ a, (tkAt L a).kind = 6 → (tkAt L a).text ≠ sOp ∧ (tkAt L a).text ≠ ⟨#[95]⟩
  k7 : ∀ a, (tkAt L a).kind = 7 → (tkAt L a).text ≠ ⟨#[99, 97, 115, 101]⟩
end Go.Proofs.YtijcobeebaceoaaGreatDoor
namespace Go.Proofs.YtijcobeebaceoaaGreatDoor
open Go.RowKit
set_option linter.unusedSimpArgs false
set_option linter.unusedVariables false
set_option linter.unusedSectionVars false

@[simp] theorem tys_nil : tys [] = .rows [] := rfl
abbrev tyC (x : Ty) : List PV := [iv x.kind, sv x.name, iv x.n, tys x.kids]
theorem tys_two (x y : Ty) : tys [x, y] = .rows [tyC x, tyC y] := by simp [tys, Ty.cells_eq]
theorem slTy : SlT PG 23 4 56 := SlT.of (by kernel_rfl)
theorem raw_tys (l : List Ty) : Raw 4 (l.map Ty.cells) (l.map Ty.cells) := .of l Ty.wd (fun x => by rw [Ty.cells_eq]; rfl) (fun x => by rw [Ty.cells_eq]; simp)
def ty0 (k : Int) (s : ByteArray) : Ty := .mk k s 0 []
abbrev qTy (L : List Tk) (s : St) : Q := q23aw (tks L) (iv s.a) (iv s.lv) (iv s.e) (iv s.w)
abbrev qAt (L : List Tk) (s : St) : Q := q52aw (tks L) (iv s.a) (iv s.lv) (iv s.e) (iv s.w)
section
variable {L : List Tk}
/-! Behind a fault nothing moves. -/
theorem nextT_e {s : St} (h : s.e ≠ 0) : nextT L s = zT := by unfold nextT; rw [if_neg h]
theorem nextT_z {s : St} (h : s.e = 0) : nextT L s = tkAt L s.a := by unfold nextT tkAt; rw [if_pos h]
theorem isB_e {x : ByteArray} {s : St} (h : s.e ≠ 0) : isB L x s = false := by unfold isB; rw [nextT_e h]; simp [zT]
theorem isB_z {x : ByteArray} {s : St} (h : s.e = 0) : isB L x s = isT L x s.a := by unfold isB isT; rw [nextT_z h]
theorem okB_e {k : Int} {x : ByteArray} {s : St} (h : s.e ≠ 0) : okB L k x s = false := by unfold okB; simp [h]
theorem takeS_e {k : Int} {x : ByteArray} {s : St} (h : s.e ≠ 0) : takeS L k x s = s := by unfold takeS; rw [okB_e h]; simp [failS, h]
theorem takeT_e {k : Int} {x : ByteArray} {s : St} (h : s.e ≠ 0) : takeT L k x s = zT := by unfold takeT; rw [okB_e h]; simp
theorem mayS_e {x : ByteArray} {s : St} (h : s.e ≠ 0) : mayS L x s = s := by unfold mayS; rw [isB_e h]; simp
theorem starts_e {k : Int} {s : St} (h : s.e ≠ 0) : ev (q51a (iv k) (tks L) (iv s.a) (iv s.lv) (iv s.e) (iv s.w)) = some (0, sts L s [bv false]) := Evl.of (by
  rw [h51a, g51a]
  simp [next_ok, Tk.cells, is_ok, isB_e h, nextT_e h, zT])
theorem starts_z {s : St} (h : s.e = 0) : ev (q51a (iv 0) (tks L) (iv s.a) (iv s.lv) (iv s.e) (iv s.w)) = some (0, sts L s [bv (stT L s.a)]) := Evl.of (by
  rw [h51a, g51a]
  unfold stT
  simp [next_ok, Tk.cells, is_ok, isB_z h, nextT_z h]
  by_cases h1 : (tkAt L s.a).kind = 1
  · simp [h1]
  · by_cases h2 : (tkAt L s.a).kind = 2
    · simp [h1, h2]
    · cases h3 : isT L ⟨#[40]⟩ s.a <;> simp [h1, h2, h3])
theorem type_e0 {s : St} (h : s.e ≠ 0) : ev (q23a (tks L) (iv s.a) (iv s.lv) (iv s.e) (iv s.w)) = some (0, sts L s [iv 0, sv eB, iv 0, .lit (.slice none 0 0)]) := Evl.of (by
  rw [h23a, g23a]; simp [h])
theorem type_e {s : St} (h : s.e ≠ 0) : ev (qTy L s) = some (0, sts L s (tyC (ty0 0 eB))) := Evl.of (by
  rw [h23aw]
  simp only [type_e0 h]
  simp [weakD_some, sts, ty0, Ty.kind, Ty.name, Ty.n, Ty.kids])
theorem atype_e (hL : L.length ≤ 1000000) {s : St} (h : s.e ≠ 0) : ev (qAt L s) = some (0, sts L s (tyC (ty0 0 eB))) := Evl.of (by
  rw [h52aw, Evl.of (q := q52a (tks L) (iv s.a) (iv s.lv) (iv s.e) (iv s.w)) (r := (0, sts L s (tyC (ty0 0 eB)))) (by
    rw [h52a, g52a]
    simp [next_m, Tk.cells, nextT_e h, zT, take_m hL (k := 7) (by decide), may_m hL, takeS_e h, takeT_e h, isB_e h, mayS_e h, type_e h])]
  simp [weakD_some, sts, ty0])
/-- Behind what a parser has taken: at a place b, all else as it was. -/
structure Fin (s s' : St) (b : Nat) : Prop where
  a : s'.a = b
  lv : s'.lv = s.lv
  e : s'.e = 0
  w : s'.w = s.w
theorem Fin.self {s : St} (h : s.e = 0) : Fin s s s.a := ⟨rfl, rfl, h, rfl⟩
theorem Fin.up {s : St} (h : s.e = 0) : Fin s s.up (s.a + 1) := by obtain ⟨a, lv, e, w⟩ := s; exact ⟨rfl, rfl, h, rfl⟩
theorem Fin.trans {s s1 s2 : St} {a b : Nat} (h1 : Fin s s1 a) (h2 : Fin s1 s2 b) : Fin s s2 b := ⟨h2.a, h2.lv.trans h1.lv, h2.e, h2.w.trans h1.w⟩
/-- What the reference's parser answers, where the grammar answers r. -/
def RO {α : Type} (L : List Tk) (q : Q) (enc : α → List PV) (s : St) (r : Rz α) : Prop := match r with
  | .out => True
  | .ok v b => ∃ s', Fin s s' b ∧ ev q = some (0, sts L s' (enc v)) ∧ b ≤ L.length
  | .err e w => e ≠ 0 ∧ ∃ (s' : St) (v : α), s'.e = e ∧ s'.w = w ∧ ev q = some (0, sts L s' (enc v))
/-- Its loop over arguments. -/
abbrev qLb (L : List Tk) (k : Int) (nm : ByteArray) (z : Int) (s : St) (l : List Ty) : Q := q23ab0b (tks L) (iv s.a) (iv s.lv) (iv s.e) (iv s.w) (iv k) (sv nm) (iv z) (l.map Ty.cells)
abbrev qLa (L : List Tk) (k : Int) (nm : ByteArray) (z : Int) (s : St) : Q := q23ab0a (tks L) (iv s.a) (iv s.lv) (iv s.e) (iv s.w) (iv k) (sv nm) (iv z)
abbrev fL (L : List Tk) (k : Int) (nm : ByteArray) (z : Int) (s : St) (p : PV) : List PV := sts L s [iv k, sv nm, iv z, p, iv 0, sv eB, iv 0, .lit (.slice none 0 0)]
def ROb (L : List Tk) (k : Int) (nm : ByteArray) (z : Int) (s : St) (l : List Ty) (r : Rz (List Ty)) : Prop := match r with
  | .out => True
  | .ok v b => ∃ s', Fin s s' b ∧ ev (qLb L k nm z s l) = some (1, fL L k nm z s' (tys v)) ∧ b ≤ L.length
  | .err e w => e ≠ 0 ∧ ∃ (s' : St) (v : List Ty), s'.e = e ∧ s'.w = w ∧ ev (qLb L k nm z s l) = some (1, fL L k nm z s' (tys v))
def ROa (L : List Tk) (k : Int) (nm : ByteArray) (z : Int) (s : St) (r : Rz (List Ty)) : Prop := match r with
  | .out => True
  | .ok v b => ∃ s', Fin s s' b ∧ ev (qLa L k nm z s) = some (match v with
    | [] => (0, fL L k nm z s' nS)
    | _ :: _ => (1, fL L k nm z s' (tys v))) ∧ b ≤ L.length
  | .err e w => e ≠ 0 ∧ ∃ (s' : St) (v : List Ty), s'.e = e ∧ s'.w = w ∧ ev (qLa L k nm z s) = some (1, fL L k nm z s' (tys v))
structure RefN (L : List Tk) (n : Nat) : Prop where
  ty : ∀ s : St, s.e = 0 → 0 ≤ s.lv → s.lv ≤ 300 → s.a ≤ L.length → RO L (qTy L s) tyC s (typeF L n s.lv s.a)
  at_ : ∀ s : St, s.e = 0 → 0 ≤ s.lv → s.lv ≤ 300 → s.a ≤ L.length → RO L (qAt L s) tyC s (atypeF L n s.lv s.a)
  aa : ∀ (k : Int) (nm : ByteArray) (z : Int) (s : St), s.e = 0 → 0 ≤ s.lv → s.lv ≤ 300 → s.a ≤ L.length → ROa L k nm z s (argsF L n s.lv s.a [])
  ar : ∀ (k : Int) (nm : ByteArray) (z : Int) (s : St) (l : List Ty), s.e = 0 → 0 ≤ s.lv → s.lv ≤ 300 → s.a ≤ L.length → l.length + n ≤ 2000000 → ROb L k nm z s l (argsF L n s.lv s.a l)
theorem RefN.zero (L : List Tk) : RefN L 0 := ⟨fun s _ _ _ _ => by rw [typeF]; trivial, fun s _ _ _ _ => by rw [atypeF]; trivial, fun k nm z s _ _ _ _ => by rw [argsF]; trivial, fun k nm z s l _ _ _ _ _ => by rw [argsF]; trivial⟩
end
section
variable {L : List Tk} (hL : L.length ≤ 1000000)
include hL
theorem ref_args {n : Nat} (ih : RefN L n) (k : Int) (nm : ByteArray) (z : Int) (s : St) (l : List Ty) (he : s.e = 0) (h0 : 0 ≤ s.lv) (h1 : s.lv ≤ 300) (ha : s.a ≤ L.length) (hl : l.length + (n + 1) ≤ 2000000) : ROb L k nm z s l (argsF L (n + 1) s.lv s.a l) := by
  rw [argsF]
  cases hs : stT L s.a with
  | false =>
    simp only [Bool.false_eq_true, if_false]
    refine ⟨s, Fin.self he, Evl.of ?_, ha⟩
    rw [h23ab0b, g23ab0b]
    simp [starts_z he, hs, tys]
  | true =>
    simp only [if_true]
    have hat := ih.at_ s he h0 h1 ha
    cases hr : atypeF L n s.lv s.a with
    | out => trivial
    | err e w =>
      rw [hr] at hat
      obtain ⟨hne, s1, v, z1, z2, g⟩ := hat
      refine ⟨hne, s1, l ++ [v], z1, z2, Evl.of ?_⟩
      have hap := fun k' => appK_raw (P := PG) (d := .fail) (k := k') slTy (raw_tys l) (c := tyC v) rfl (by simp) (by simp; omega) (by decide)
      have hout : ev (qLb L k nm z s1 (l ++ [v])) = some (1, fL L k nm z s1 (tys (l ++ [v]))) := Evl.of (by
        rw [h23ab0b, g23ab0b]
        simp [starts_e (L := L) (k := 0) (s := s1) (by rw [z1]; exact hne), tys])
      unfold qLb at hout
      rw [List.map_append, List.map_cons, List.map_nil, Ty.cells_eq v] at hout
      rw [h23ab0b, g23ab0b]
      simp [starts_z he, hs, g, hap, hout]
    | ok v b =>
      rw [hr] at hat
      obtain ⟨s1, hf, g, hb⟩ := hat
      have hap := fun k' => appK_raw (P := PG) (d := .fail) (k := k') slTy (raw_tys l) (c := tyC v) rfl (by simp) (by simp; omega) (by decide)
      have hn := ih.ar k nm z s1 (l ++ [v]) hf.e (by rw [hf.lv]; exact h0) (by rw [hf.lv]; exact h1) (by rw [hf.a]; exact hb) (by simp; omega)
      rw [hf.lv, hf.a] at hn
      simp only [Rz.bind_ok]
      cases hr2 : argsF L n s.lv b (l ++ [v]) with
      | out => trivial
      | err e w =>
        rw [hr2] at hn
        obtain ⟨hne, s2, v2, z1, z2, g2⟩ := hn
        unfold qLb at g2
        rw [List.map_append, List.map_cons, List.map_nil, Ty.cells_eq v] at g2
        refine ⟨hne, s2, v2, z1, z2, Evl.of ?_⟩
        rw [h23ab0b, g23ab0b]
        simp [starts_z he, hs, g, hap, g2]
      | ok v2 b2 =>
        rw [hr2] at hn
        obtain ⟨s2, hf2, g2, hb2⟩ := hn
        unfold qLb at g2
        rw [List.map_append, List.map_cons, List.map_nil, Ty.cells_eq v] at g2
        refine ⟨s2, hf.trans hf2, Evl.of ?_, hb2⟩
        rw [h23ab0b, g23ab0b]
        simp [starts_z he, hs, g, hap, g2]
theorem argsF_ne : ∀ (n : Nat) (d : Int) (a : Nat) (l : List Ty) (v : List Ty) (b : Nat), l ≠ [] → argsF L n d a l = .ok v b → v ≠ []
  | 0, d, a, l, v, b, hl, h => by rw [argsF] at h; cases h
  | n + 1, d, a, l, v, b, hl, h => by
    rw [argsF] at h
    split at h
    · cases hr : atypeF L n d a with
      | out => rw [hr] at h; cases h
      | err e w => rw [hr] at h; cases h
      | ok x c => rw [hr] at h; exact argsF_ne n d c _ v b (by simp) h
    · cases h; exact hl
theorem ref_argsA {n : Nat} (ih : RefN L n) (hn2 : n ≤ 1000000) (k : Int) (nm : ByteArray) (z : Int) (s : St) (he : s.e = 0) (h0 : 0 ≤ s.lv) (h1 : s.lv ≤ 300) (ha : s.a ≤ L.length) : ROa L k nm z s (argsF L (n + 1) s.lv s.a []) := by
  rw [argsF]
  cases hs : stT L s.a with
  | false =>
    simp only [Bool.false_eq_true, if_false]
    refine ⟨s, Fin.self he, Evl.of ?_, ha⟩
    rw [h23ab0a, g23ab0a]
    simp [starts_z he, hs]
  | true =>
    simp only [if_true]
    have hat := ih.at_ s he h0 h1 ha
    cases hr : atypeF L n s.lv s.a with
    | out => trivial
    | err e w =>
      rw [hr] at hat
      obtain ⟨hne, s1, v, z1, z2, g⟩ := hat
      refine ⟨hne, s1, [v], z1, z2, Evl.of ?_⟩
      have hout : ev (qLb L k nm z s1 [v]) = some (1, fL L k nm z s1 (tys [v])) := Evl.of (by
        rw [h23ab0b, g23ab0b]
        simp [starts_e (L := L) (k := 0) (s := s1) (by rw [z1]; exact hne), tys])
      unfold qLb at hout
      rw [List.map_cons, List.map_nil, Ty.cells_eq v] at hout
      rw [h23ab0a, g23ab0a]
      simp [starts_z he, hs, g, hout]
    | ok v b =>
      rw [hr] at hat
      obtain ⟨s1, hf, g, hb⟩ := hat
      have hn := ih.ar k nm z s1 [v] hf.e (by rw [hf.lv]; exact h0) (by rw [hf.lv]; exact h1) (by rw [hf.a]; exact hb) (by simp; omega)
      rw [hf.lv, hf.a] at hn
      simp only [Rz.bind_ok, List.nil_append]
      cases hr2 : argsF L n s.lv b [v] with
      | out => trivial
      | err e w =>
        rw [hr2] at hn
        obtain ⟨hne, s2, v2, z1, z2, g2⟩ := hn
        unfold qLb at g2
        rw [List.map_cons, List.map_nil, Ty.cells_eq v] at g2
        refine ⟨hne, s2, v2, z1, z2, Evl.of ?_⟩
        rw [h23ab0a, g23ab0a]
        simp [starts_z he, hs, g, g2]
      | ok v2 b2 =>
        rw [hr2] at hn
        obtain ⟨s2, hf2, g2, hb2⟩ := hn
        have hne := argsF_ne hL n s.lv b [v] v2 b2 (by simp) hr2
        unfold qLb at g2
        rw [List.map_cons, List.map_nil, Ty.cells_eq v] at g2
        refine ⟨s2, hf.trans hf2, Evl.of ?_, hb2⟩
        cases v2 with
        | nil => exact absurd rfl hne
        | cons x l =>
          rw [h23ab0a, g23ab0a]
          simp [starts_z he, hs, g, g2]
end
end Go.Proofs.YtijcobeebaceoaaGreatDoor
namespace Go.Proofs.YtijcobeebaceoaaGreatDoor
open Go.RowKit
set_option linter.unusedSimpArgs false
set_option linter.unusedVariables false
set_option linter.unusedSectionVars false
section
variable {L : List Tk}
theorem takeS_t {k : Int} {x : ByteArray} {s : St} (hk : 6 ≤ k) (h : s.e = 0) (hi : isT L x s.a = true) : takeS L k x s = s.up := by
  unfold takeS okB
  rw [isB_z h]
  have h6 : ¬ k < 6 := by omega
  simp [h, h6, hi]
theorem takeS_f {k : Int} {x : ByteArray} {s : St} (hk : 6 ≤ k) (h : s.e = 0) (hi : isT L x s.a = false) : takeS L k x s = ⟨s.a, s.lv, 110, (tkAt L s.a).at_⟩ := by
  unfold takeS okB
  rw [isB_z h]
  have h6 : ¬ k < 6 := by omega
  simp [h, h6, failS, nextT_z h, hi]
theorem mayS_t {x : ByteArray} {s : St} (h : s.e = 0) (hi : isT L x s.a = true) : mayS L x s = s.up := by
  unfold mayS; rw [isB_z h, hi]; rfl
theorem mayS_f {x : ByteArray} {s : St} (h : s.e = 0) (hi : isT L x s.a = false) : mayS L x s = s := by
  unfold mayS; rw [isB_z h, hi]; rfl
/-- The weak view. -/
theorem RO.weak {q qw : St → Q} (hw : ∀ s, body PG EE TT ev (qw s) = weakD (ev (q s))) {s : St} {r : Rz Ty}
    (h : match r with
      | .out => True
      | .ok v b => ∃ s' k ys, Fin s s' b ∧ body PG EE TT ev (q s) = .ok (k, sts L s' ys) ∧ wdPs ys = tyC v ∧ b ≤ L.length
      | .err e w => e ≠ 0 ∧ ∃ (s' : St) (v : Ty) (k : Nat) (ys : List PV), s'.e = e ∧ s'.w = w ∧ body PG EE TT ev (q s) = .ok (k, sts L s' ys) ∧ wdPs ys = tyC v) : RO L (qw s) tyC s r := by
  cases r with
  | out => trivial
  | ok v b =>
    obtain ⟨s', k, ys, hf, h1, h2, h3⟩ := h
    refine ⟨s', hf, Evl.of ?_, h3⟩
    have h4 : ev (q s) = _ := Evl.of h1
    rw [hw, h4, weakD_some]
    simp [h2]
  | err e w =>
    obtain ⟨h0, s', v, k, ys, z1, z2, h1, h2⟩ := h
    refine ⟨h0, s', v, z1, z2, Evl.of ?_⟩
    have h4 : ev (q s) = _ := Evl.of h1
    rw [hw, h4, weakD_some]
    simp [h2]
end
section
variable {L : List Tk} (hL : L.length ≤ 1000000)
include hL
theorem ref_atype {n : Nat} (ih : RefN L n) (s : St) (he : s.e = 0) (h0 : 0 ≤ s.lv) (h1 : s.lv ≤ 300) (ha : s.a ≤ L.length) : RO L (qAt L s) tyC s (atypeF L (n + 1) s.lv s.a) := by
  refine RO.weak (q := fun s => q52a (tks L) (iv s.a) (iv s.lv) (iv s.e) (iv s.w)) (fun s => h52aw ev _ _ _ _ _) ?_
  rw [atypeF]
  by_cases k2 : (tkAt L s.a).kind = 2
  · simp only [if_pos k2]
    have hl := tkAt_in (L := L) (a := s.a) (by omega)
    refine ⟨s.up, 0, [iv 3, sv (tkAt L s.a).text, iv 0, .lit (.slice none 0 0)], Fin.up he, ?_, by simp [Ty.kind, Ty.name, Ty.n, Ty.kids], hl⟩
    rw [h52a, g52a]
    simp [next_m, Tk.cells, nextT_z he, k2, up_a hl hL, up_lv, up_e, up_w]
  · simp only [if_neg k2]
    by_cases k1 : (tkAt L s.a).kind = 1
    · simp only [if_pos k1]
      have hl := tkAt_in (L := L) (a := s.a) (by omega)
      refine ⟨s.up, 0, [iv 1, sv (tkAt L s.a).text, iv 0, .lit (.slice none 0 0)], Fin.up he, ?_, by simp [Ty.kind, Ty.name, Ty.n, Ty.kids], hl⟩
      rw [h52a, g52a]
      simp [next_m, Tk.cells, nextT_z he, k2, k1, up_a hl hL, up_lv, up_e, up_w]
    · simp only [if_neg k1]
      cases ho : isT L sOp s.a with
      | false =>
        simp only [Bool.false_eq_true, if_false]
        obtain ⟨s1, hs1⟩ : ∃ s1, s1 = takeS L 7 ⟨#[40]⟩ s := ⟨_, rfl⟩
        have hv := hs1.trans (takeS_f (by decide) he ho)
        have e1 : s1.e ≠ 0 := by rw [hv]; simp
        refine ⟨by decide, s1, ty0 0 eB, 0, tyC (ty0 0 eB), by rw [hv], by rw [hv], ?_, by simp [ty0, Ty.kind, Ty.name, Ty.n, Ty.kids, wdP_rows, wdPss_nil]⟩
        rw [h52a, g52a]
        simp [next_m, Tk.cells, nextT_z he, k2, k1, take_m hL (k := 7) (by decide), may_m hL, ← hs1, isB_e e1, mayS_e e1, takeS_e e1, type_e e1, wdP_rows, wdPss_nil]
      | true =>
        simp only [if_true]
        have hl := isT_in ho
        obtain ⟨s1, hs1⟩ : ∃ s1, s1 = takeS L 7 ⟨#[40]⟩ s := ⟨_, rfl⟩
        have hv := hs1.trans (takeS_t (by decide) he ho)
        have f1 : Fin s s1 (s.a + 1) := by rw [hv]; exact Fin.up he
        cases hc : isT L sCl (s.a + 1) with
        | true =>
          simp only [if_true]
          have hl2 := isT_in hc
          rw [← f1.a] at hc
          refine ⟨s1.up, 0, [iv 3, sv sUn, iv 0, .lit (.slice none 0 0)], ?_, ?_, by simp [Ty.kind, Ty.name, Ty.n, Ty.kids], by omega⟩
          · have := f1.trans (Fin.up f1.e)
            rw [f1.a] at this
            exact this
          · rw [h52a, g52a]
            simp [next_m, Tk.cells, nextT_z he, k2, k1, take_m hL (k := 7) (by decide), may_m hL, ← hs1, isB_z f1.e, hc, mayS_t f1.e hc]
        | false =>
          simp only [Bool.false_eq_true, if_false]
          have ht := ih.ty s1 f1.e (by rw [f1.lv]; exact h0) (by rw [f1.lv]; exact h1) (by rw [f1.a]; exact hl)
          rw [f1.lv, f1.a] at ht
          rw [← f1.a] at hc
          cases hr : typeF L n s.lv (s.a + 1) with
          | out => trivial
          | err e w =>
            rw [hr] at ht
            obtain ⟨hne, s2, v, z1, z2, g⟩ := ht
            have e2 : s2.e ≠ 0 := by rw [z1]; exact hne
            refine ⟨hne, s2, v, 0, tyC v, z1, z2, ?_, by simp⟩
            rw [h52a, g52a]
            simp [next_m, Tk.cells, nextT_z he, k2, k1, take_m hL (k := 7) (by decide), may_m hL, ← hs1, isB_z f1.e, hc, mayS_f f1.e hc, g, takeS_e e2]
          | ok v b =>
            rw [hr] at ht
            obtain ⟨s2, f2, g, hb⟩ := ht
            simp only [Rz.bind_ok, wantF]
            obtain ⟨s3, hs3⟩ : ∃ s3, s3 = takeS L 7 ⟨#[41]⟩ s2 := ⟨_, rfl⟩
            cases hd : isT L sCl b with
            | true =>
              simp only [if_true]
              have hl3 := isT_in hd
              rw [← f2.a] at hd
              have hv3 := hs3.trans (takeS_t (by decide) f2.e hd)
              refine ⟨s3, 0, tyC v, ?_, ?_, by simp, by omega⟩
              · have := (f1.trans f2).trans (Fin.up f2.e)
                rw [f2.a] at this
                rw [hv3]; exact this
              · rw [h52a, g52a]
                simp [next_m, Tk.cells, nextT_z he, k2, k1, take_m hL (k := 7) (by decide), may_m hL, ← hs1, isB_z f1.e, hc, mayS_f f1.e hc, g, ← hs3]
            | false =>
              simp only [Bool.false_eq_true, if_false]
              rw [← f2.a] at hd
              have hv3 := hs3.trans (takeS_f (by decide) f2.e hd)
              refine ⟨by decide, s3, v, 0, tyC v, by rw [hv3], by rw [hv3, f2.a], ?_, by simp⟩
              rw [h52a, g52a]
              simp [next_m, Tk.cells, nextT_z he, k2, k1, take_m hL (k := 7) (by decide), may_m hL, ← hs1, isB_z f1.e, hc, mayS_f f1.e hc, g, ← hs3]
theorem dn_fin {s s1 : St} {b : Nat} (h0 : 0 ≤ s.lv) (h1 : s.lv ≤ 300) {s0 : St} (hlv : s0.lv = s.lv + 1) (hw : s0.w = s.w) (h : Fin s0 s1 b) : Fin s ⟨s1.a, IntKind.i64.wrap (s1.lv - 1), s1.e, s1.w⟩ b := by
  refine ⟨h.a, ?_, h.e, h.w.trans hw⟩
  show IntKind.i64.wrap (s1.lv - 1) = s.lv
  rw [h.lv, hlv, wrap_id (by omega)]; omega
theorem deep_no {s : St} (he : s.e = 0) (h0 : 0 ≤ s.lv) (h1 : s.lv ≤ 300) (h : ¬ 300 < s.lv + 1) : (deepS L s).a = s.a ∧ (deepS L s).lv = s.lv + 1 ∧ (deepS L s).e = 0 ∧ (deepS L s).w = s.w := by
  have hw : IntKind.i64.wrap (s.lv + 1) = s.lv + 1 := wrap_id (by omega)
  have e : deepS L s = ⟨s.a, s.lv + 1, s.e, s.w⟩ := by
    unfold deepS lvS
    simp only [hw, if_neg h]
  rw [e]
  exact ⟨rfl, rfl, he, rfl⟩
theorem deep_yes {s : St} (he : s.e = 0) (h0 : 0 ≤ s.lv) (h1 : s.lv ≤ 300) (h : 300 < s.lv + 1) : (deepS L s).e = 111 ∧ (deepS L s).w = (tkAt L s.a).at_ := by
  have hw : IntKind.i64.wrap (s.lv + 1) = s.lv + 1 := wrap_id (by omega)
  have e : deepS L s = ⟨s.a, s.lv + 1, 111, (nextT L ⟨s.a, s.lv + 1, s.e, s.w⟩).at_⟩ := by
    unfold deepS lvS
    simp only [hw, if_pos h]
    unfold failS
    simp only [he, if_true]
  rw [e]
  exact ⟨rfl, congrArg Tk.at_ (nextT_z (s := ⟨s.a, s.lv + 1, s.e, s.w⟩) he)⟩
theorem ref_type {n : Nat} (ih : RefN L n) (s : St) (he : s.e = 0) (h0 : 0 ≤ s.lv) (h1 : s.lv ≤ 300) (ha : s.a ≤ L.length) : RO L (qTy L s) tyC s (typeF L (n + 1) s.lv s.a) := by
  refine RO.weak (q := fun s => q23a (tks L) (iv s.a) (iv s.lv) (iv s.e) (iv s.w)) (fun s => h23aw ev _ _ _ _ _) ?_
  rw [typeF_s]
  obtain ⟨s1, hs1⟩ : ∃ s1, s1 = deepS L s := ⟨_, rfl⟩
  by_cases hd : 300 < s.lv + 1
  · rw [if_pos hd]
    obtain ⟨c1, c2⟩ := deep_yes hL he h0 h1 hd
    rw [← hs1] at c1 c2
    have e1 : s1.e ≠ 0 := by rw [c1]; decide
    refine ⟨by decide, ⟨s1.a, IntKind.i64.wrap (s1.lv - 1), s1.e, s1.w⟩, ty0 0 eB, 0, tyC (ty0 0 eB), c1, c2, ?_, by simp [ty0, wdP_rows, wdPss_cons, wdPss_nil, tys_two, Ty.kind, Ty.name, Ty.n, Ty.kids]⟩
    rw [h23a, g23a]
    simp [eq_true he, deep_m, next_m, Tk.cells, ← hs1, nextT_e e1, zT, atype_e hL e1, may_m hL, isB_e e1, mayS_e e1]
  · rw [if_neg hd]
    obtain ⟨c1, c2, c3, c4⟩ := deep_no hL he h0 h1 hd
    rw [← hs1] at c1 c2 c3 c4
    have ct : tkAt L s1.a = tkAt L s.a := by rw [c1]
    unfold btypeF
    by_cases k2 : (tkAt L s.a).kind = 2
    · rw [if_pos k2]
      have hl := tkAt_in (L := L) (a := s.a) (by omega)
      have f1 := Fin.up c3
      rw [c1] at f1
      have ht := ih.aa 3 (tkAt L s.a).text 0 s1.up f1.e (by rw [f1.lv, c2]; omega) (by rw [f1.lv, c2]; omega) (by rw [f1.a]; exact hl)
      rw [f1.lv, f1.a, c2] at ht
      have hu := up_a (s := s1) (n := L.length) (by rw [c1]; exact hl) hL
      cases hr : argsF L n (s.lv + 1) (s.a + 1) [] with
      | out => trivial
      | err e w =>
        rw [hr] at ht
        obtain ⟨hne, s2, v, z1, z2, g2⟩ := ht
        unfold qLa at g2
        simp only [up_lv, up_e, up_w] at g2
        have e2 : s2.e ≠ 0 := by rw [z1]; exact hne
        refine ⟨hne, ⟨s2.a, IntKind.i64.wrap (s2.lv - 1), s2.e, s2.w⟩, (.mk 3 (tkAt L s.a).text 0 v), 1, [iv 3, sv (tkAt L s.a).text, iv 0, tys v], z1, z2, ?_, by simp [wdP_rows, wdPss_cons, wdPss_nil, tys_two, Ty.kind, Ty.name, Ty.n, Ty.kids]⟩
        rw [h23a, g23a]
        simp [eq_true he, deep_m, next_m, Tk.cells, ← hs1, nextT_z c3, ct, k2, hu, g2, may_m hL, isB_e e2, mayS_e e2]
      | ok v b =>
        rw [hr] at ht
        obtain ⟨s2, f2', g2, hb⟩ := ht
        have f2 := f1.trans f2'
        unfold qLa at g2
        simp only [up_lv, up_e, up_w] at g2
        simp only [Rz.bind_ok]
        cases v with
        | nil =>
          simp only at g2
          cases hd : isT L sArr b with
          | true =>
            simp only [if_true]
            have hl3 := isT_in hd
            rw [← f2.a] at hd
            have f3 := f2.trans (Fin.up f2.e)
            rw [f2.a] at f3
            have ht := ih.ty s2.up f3.e (by rw [f3.lv, c2]; omega) (by rw [f3.lv, c2]; omega) (by rw [f3.a]; omega)
            rw [f3.lv, f3.a, c2] at ht
            cases hr3 : typeF L n (s.lv + 1) (b + 1) with
            | out => trivial
            | err e w =>
              rw [hr3] at ht
              obtain ⟨hne, s3, y, z1, z2, g3⟩ := ht
              refine ⟨hne, ⟨s3.a, IntKind.i64.wrap (s3.lv - 1), s3.e, s3.w⟩, .mk 3 sArr 0 [.mk 3 (tkAt L s.a).text 0 [], y], 1, [iv 3, sv sArr, iv 0, .rows [[iv 3, sv (tkAt L s.a).text, iv 0, nS], tyC y]], z1, z2, ?_, by simp [wdP_rows, wdPss_cons, wdPss_nil, tys_two, Ty.kind, Ty.name, Ty.n, Ty.kids]⟩
              rw [h23a, g23a]
              simp [eq_true he, deep_m, next_m, Tk.cells, ← hs1, nextT_z c3, ct, k2, hu, g2, may_m hL, isB_z f2.e, hd, mayS_t f2.e hd, g3]
            | ok y c =>
              rw [hr3] at ht
              obtain ⟨s3, f4, g3, hc⟩ := ht
              refine ⟨⟨s3.a, IntKind.i64.wrap (s3.lv - 1), s3.e, s3.w⟩, 1, [iv 3, sv sArr, iv 0, .rows [[iv 3, sv (tkAt L s.a).text, iv 0, nS], tyC y]], dn_fin hL h0 h1 c2 c4 (f3.trans f4), ?_, by simp [wdP_rows, wdPss_cons, wdPss_nil, tys_two, Ty.kind, Ty.name, Ty.n, Ty.kids], hc⟩
              rw [h23a, g23a]
              simp [eq_true he, deep_m, next_m, Tk.cells, ← hs1, nextT_z c3, ct, k2, hu, g2, may_m hL, isB_z f2.e, hd, mayS_t f2.e hd, g3]
          | false =>
            simp only [Bool.false_eq_true, if_false]
            rw [← f2.a] at hd
            refine ⟨⟨s2.a, IntKind.i64.wrap (s2.lv - 1), s2.e, s2.w⟩, 0, [iv 3, sv (tkAt L s.a).text, iv 0, nS], dn_fin hL h0 h1 c2 c4 f2, ?_, by simp [wdP_rows, wdPss_cons, wdPss_nil, tys_two, Ty.kind, Ty.name, Ty.n, Ty.kids], hb⟩
            rw [h23a, g23a]
            simp [eq_true he, deep_m, next_m, Tk.cells, ← hs1, nextT_z c3, ct, k2, hu, g2, may_m hL, isB_z f2.e, hd, mayS_f f2.e hd]
        | cons x0 l0 =>
          simp only at g2
          cases hd : isT L sArr b with
          | true =>
            simp only [if_true]
            have hl3 := isT_in hd
            rw [← f2.a] at hd
            have f3 := f2.trans (Fin.up f2.e)
            rw [f2.a] at f3
            have ht := ih.ty s2.up f3.e (by rw [f3.lv, c2]; omega) (by rw [f3.lv, c2]; omega) (by rw [f3.a]; omega)
            rw [f3.lv, f3.a, c2] at ht
            cases hr3 : typeF L n (s.lv + 1) (b + 1) with
            | out => trivial
            | err e w =>
              rw [hr3] at ht
              obtain ⟨hne, s3, y, z1, z2, g3⟩ := ht
              refine ⟨hne, ⟨s3.a, IntKind.i64.wrap (s3.lv - 1), s3.e, s3.w⟩, .mk 3 sArr 0 [.mk 3 (tkAt L s.a).text 0 (x0 :: l0), y], 1, [iv 3, sv sArr, iv 0, .rows [[iv 3, sv (tkAt L s.a).text, iv 0, tys (x0 :: l0)], tyC y]], z1, z2, ?_, by simp [wdP_rows, wdPss_cons, wdPss_nil, tys_two, Ty.kind, Ty.name, Ty.n, Ty.kids]⟩
              rw [h23a, g23a]
              simp [eq_true he, deep_m, next_m, Tk.cells, ← hs1, nextT_z c3, ct, k2, hu, g2, may_m hL, isB_z f2.e, hd, mayS_t f2.e hd, g3]
            | ok y c =>
              rw [hr3] at ht
              obtain ⟨s3, f4, g3, hc⟩ := ht
              refine ⟨⟨s3.a, IntKind.i64.wrap (s3.lv - 1), s3.e, s3.w⟩, 1, [iv 3, sv sArr, iv 0, .rows [[iv 3, sv (tkAt L s.a).text, iv 0, tys (x0 :: l0)], tyC y]], dn_fin hL h0 h1 c2 c4 (f3.trans f4), ?_, by simp [wdP_rows, wdPss_cons, wdPss_nil, tys_two, Ty.kind, Ty.name, Ty.n, Ty.kids], hc⟩
              rw [h23a, g23a]
              simp [eq_true he, deep_m, next_m, Tk.cells, ← hs1, nextT_z c3, ct, k2, hu, g2, may_m hL, isB_z f2.e, hd, mayS_t f2.e hd, g3]
          | false =>
            simp only [Bool.false_eq_true, if_false]
            rw [← f2.a] at hd
            refine ⟨⟨s2.a, IntKind.i64.wrap (s2.lv - 1), s2.e, s2.w⟩, 1, [iv 3, sv (tkAt L s.a).text, iv 0, tys (x0 :: l0)], dn_fin hL h0 h1 c2 c4 f2, ?_, by simp [wdP_rows, wdPss_cons, wdPss_nil, tys_two, Ty.kind, Ty.name, Ty.n, Ty.kids], hb⟩
            rw [h23a, g23a]
            simp [eq_true he, deep_m, next_m, Tk.cells, ← hs1, nextT_z c3, ct, k2, hu, g2, may_m hL, isB_z f2.e, hd, mayS_f f2.e hd]
    · rw [if_neg k2]
      have ht := ih.at_ s1 c3 (by rw [c2]; omega) (by rw [c2]; omega) (by rw [c1]; exact ha)
      rw [c2, c1] at ht
      cases hr : atypeF L n (s.lv + 1) s.a with
      | out => trivial
      | err e w =>
        rw [hr] at ht
        obtain ⟨hne, s2, x, z1, z2, g2⟩ := ht
        have e2 : s2.e ≠ 0 := by rw [z1]; exact hne
        refine ⟨hne, ⟨s2.a, IntKind.i64.wrap (s2.lv - 1), s2.e, s2.w⟩, x, 0, (tyC x), z1, z2, ?_, by simp [wdP_rows, wdPss_cons, wdPss_nil, tys_two, Ty.kind, Ty.name, Ty.n, Ty.kids]⟩
        rw [h23a, g23a]
        simp [eq_true he, deep_m, next_m, Tk.cells, ← hs1, nextT_z c3, ct, k2, g2, may_m hL, isB_e e2, mayS_e e2]
      | ok x b =>
        rw [hr] at ht
        obtain ⟨s2, f2, g2, hb⟩ := ht
        simp only [Rz.bind_ok]
        cases hd : isT L sArr b with
        | true =>
          simp only [if_true]
          have hl3 := isT_in hd
          rw [← f2.a] at hd
          have f3 := f2.trans (Fin.up f2.e)
          rw [f2.a] at f3
          have ht := ih.ty s2.up f3.e (by rw [f3.lv, c2]; omega) (by rw [f3.lv, c2]; omega) (by rw [f3.a]; omega)
          rw [f3.lv, f3.a, c2] at ht
          cases hr3 : typeF L n (s.lv + 1) (b + 1) with
          | out => trivial
          | err e w =>
            rw [hr3] at ht
            obtain ⟨hne, s3, y, z1, z2, g3⟩ := ht
            refine ⟨hne, ⟨s3.a, IntKind.i64.wrap (s3.lv - 1), s3.e, s3.w⟩, .mk 3 sArr 0 [x, y], 1, [iv 3, sv sArr, iv 0, .rows [tyC x, tyC y]], z1, z2, ?_, by simp [wdP_rows, wdPss_cons, wdPss_nil, tys_two, Ty.kind, Ty.name, Ty.n, Ty.kids]⟩
            rw [h23a, g23a]
            simp [eq_true he, deep_m, next_m, Tk.cells, ← hs1, nextT_z c3, ct, k2, g2, may_m hL, isB_z f2.e, hd, mayS_t f2.e hd, g3]
          | ok y c =>
            rw [hr3] at ht
            obtain ⟨s3, f4, g3, hc⟩ := ht
            refine ⟨⟨s3.a, IntKind.i64.wrap (s3.lv - 1), s3.e, s3.w⟩, 1, [iv 3, sv sArr, iv 0, .rows [tyC x, tyC y]], dn_fin hL h0 h1 c2 c4 (f3.trans f4), ?_, by simp [wdP_rows, wdPss_cons, wdPss_nil, tys_two, Ty.kind, Ty.name, Ty.n, Ty.kids], hc⟩
            rw [h23a, g23a]
            simp [eq_true he, deep_m, next_m, Tk.cells, ← hs1, nextT_z c3, ct, k2, g2, may_m hL, isB_z f2.e, hd, mayS_t f2.e hd, g3]
        | false =>
          simp only [Bool.false_eq_true, if_false]
          rw [← f2.a] at hd
          refine ⟨⟨s2.a, IntKind.i64.wrap (s2.lv - 1), s2.e, s2.w⟩, 0, (tyC x), dn_fin hL h0 h1 c2 c4 f2, ?_, by simp [wdP_rows, wdPss_cons, wdPss_nil, tys_two, Ty.kind, Ty.name, Ty.n, Ty.kids], hb⟩
          rw [h23a, g23a]
          simp [eq_true he, deep_m, next_m, Tk.cells, ← hs1, nextT_z c3, ct, k2, g2, may_m hL, isB_z f2.e, hd, mayS_f f2.e hd]
theorem ref_all : ∀ n, n ≤ 1000000 → RefN L n
  | 0, _ => RefN.zero L
  | n + 1, h => by
    have ih := ref_all n (by omega)
    exact ⟨ref_type hL ih, ref_atype hL ih, fun k nm z s => ref_argsA hL ih (by omega) k nm z s, fun k nm z s l => ref_args hL ih k nm z s l⟩
end
end Go.Proofs.YtijcobeebaceoaaGreatDoor
namespace Go.Proofs.YtijcobeebaceoaaGreatDoor
open Go.RowKit
set_option linter.unusedSimpArgs false
set_option linter.unusedVariables false
set_option linter.unusedSectionVars false

abbrev ps (L : List Tk) (a : Nat) (d : Int) (l : List PV) : List PV := tks L :: iv a :: iv d :: l
section
variable {L : List Tk} (hW : WfL L)
theorem tkAt_get {a : Nat} (h : a < L.length) : L[a]? = some (tkAt L a) := by
  unfold tkAt; rw [List.getElem?_eq_getElem h]; rfl
theorem p_next {a : Nat} (h : a < L.length) (d : PV) : ev (q54a (tks L) (iv a) d) = some (0, tks L :: iv a :: d :: (tkAt L a).cells) := Evl.of (by
  rw [h54a, g54a]
  have h2 : ¬ L.length ≤ a := by omega
  simp [idxK_tks (tkAt_get h), Tk.cells])
include hW
theorem WfL.w1 {a : Nat} (h : a < L.length) : IntKind.i64.wrap ((a : Int) + 1) = ((a + 1 : Nat) : Int) := by
  have := hW.len
  rw [wrap_id (by omega)]; omega
theorem p_any {a : Nat} (h : a < L.length) (d : PV) : ev (q71a (tks L) (iv a) d) = some (0, tks L :: iv (a + 1 : Nat) :: d :: (tkAt L a).cells) := Evl.of (by
  rw [h71a, g71a]
  have hw := hW.w1 h
  simp [p_next h, Tk.cells, hw])
theorem p_is {a : Nat} (h : a < L.length) (x : ByteArray) (d : PV) : ev (q82a (sv x) (tks L) (iv a) d) = some (0, [tks L, iv a, d, bv (isT L x a)]) := Evl.of (by
  rw [h82a, g82a]
  have ht := hW.top a
  unfold isT
  simp [p_next h, Tk.cells]
  by_cases h7 : (tkAt L a).kind = 7
  · by_cases hx : (tkAt L a).text = x <;> simp [h7, hx]
  · by_cases h6 : (tkAt L a).kind = 6
    · by_cases hx : (tkAt L a).text = x <;> simp [h6, hx]
    · have : ¬ 6 ≤ (tkAt L a).kind := by omega
      simp [h7, h6, this])
theorem p_skip {a : Nat} (h : a < L.length) (x : ByteArray) (d : PV) : ev (q47a (sv x) (tks L) (iv a) d) = some (0, [tks L, iv (if isT L x a then a + 1 else a : Nat), d, bv (isT L x a)]) := Evl.of (by
  rw [h47a, g47a]
  have hw := hW.w1 h
  cases hi : isT L x a <;> simp [p_is hW h, hi, hw])
theorem p_fail (e w : Int) (a d : PV) : ev (q73a (iv e) (iv w) (tks L) a d) = some (0, [tks L, a, d, iv e, iv w]) := Evl.of (by
  rw [h73a, g73a]; simp)
theorem p_want {a : Nat} (h : a < L.length) (x : ByteArray) (d : PV) : ev (q58a (sv x) (tks L) (iv a) d) = some (if isT L x a then (0, tks L :: iv (a + 1 : Nat) :: d :: (tkAt L a).cells) else (1, [tks L, iv a, d, iv 110, iv (tkAt L a).at_])) := Evl.of (by
  rw [h58a, g58a]
  cases hi : isT L x a <;> simp [p_is hW h, hi, p_any hW h, p_next h, Tk.cells, p_fail hW])
theorem p_kind {a : Nat} (h : a < L.length) (k : Int) (d : PV) : ev (q44a (iv k) (tks L) (iv a) d) = some (if (tkAt L a).kind = k then (1, tks L :: iv (a + 1 : Nat) :: d :: (tkAt L a).cells) else (0, [tks L, iv a, d, iv 110, iv (tkAt L a).at_])) := Evl.of (by
  rw [h44a, g44a]
  by_cases hi : (tkAt L a).kind = k
  · simp [p_next h, Tk.cells, hi, p_any hW h]
  · simp [p_next h, Tk.cells, hi, p_fail hW])
theorem p_down {a : Nat} (h : a < L.length) {d : Int} (h0 : 0 ≤ d) (h1 : d ≤ 300) : ev (q45a (tks L) (iv a) (iv d)) = some (if 300 < d + 1 then (0, [tks L, iv a, iv (d + 1), iv 111, iv (tkAt L a).at_]) else (1, [tks L, iv a, iv (d + 1)])) := Evl.of (by
  rw [h45a, g45a]
  have hw : IntKind.i64.wrap (d + 1) = d + 1 := wrap_id (by omega)
  by_cases hi : 300 < d + 1
  · simp [hw, hi, p_next h, Tk.cells, p_fail hW]
  · simp [hw, hi])
theorem p_atypes {a : Nat} (h : a < L.length) (d : PV) : ev (q81a (tks L) (iv a) d) = some (0, [tks L, iv a, d, bv (stT L a)]) := Evl.of (by
  rw [h81a, g81a]
  unfold stT
  simp [p_next h, Tk.cells, p_is hW h]
  by_cases h2 : (tkAt L a).kind = 2
  · simp [h2]
  · by_cases h1 : (tkAt L a).kind = 1
    · simp [h1, h2]
    · cases h3 : isT L ⟨#[40]⟩ a <;> simp [h1, h2, h3])
end
end Go.Proofs.YtijcobeebaceoaaGreatDoor
namespace Go.Proofs.YtijcobeebaceoaaGreatDoor
open Go.RowKit
set_option linter.unusedSimpArgs false
set_option linter.unusedVariables false
set_option linter.unusedSectionVars false

/-- What the program's parser answers, where the grammar answers r. -/
def PrO {α : Type} (L : List Tk) (q : Q) (enc : α → List PV) (d : Int) (r : Rz α) : Prop := match r with
  | .out => True
  | .ok v b => b < L.length ∧ ev q = some (0, ps L b d (enc v))
  | .err e w => ∃ (b : Nat) (d' : Int), ev q = some (1, ps L b d' [iv e, iv w])
theorem PrO.weak {α : Type} {L : List Tk} {q qw : Q} {enc : α → List PV} {d : Int} {r : Rz α} {m : List Nat} (hw : body PG EE TT ev qw = weakM m (ev q))
    (h : match r with
      | .out => True
      | .ok v b => b < L.length ∧ ∃ k ys, nth 0 m k = 0 ∧ body PG EE TT ev q = .ok (k, ps L b d ys) ∧ wdPs ys = enc v
      | .err e w => ∃ (k b : Nat) (d' : Int), nth 0 m k = 1 ∧ body PG EE TT ev q = .ok (k, ps L b d' [iv e, iv w])) : PrO L qw enc d r := by
  cases r with
  | out => trivial
  | ok v b =>
    obtain ⟨h3, k, ys, hk, h1, h2⟩ := h
    refine ⟨h3, Evl.of ?_⟩
    have h4 : ev q = _ := Evl.of h1
    rw [hw, h4, weakM_some, hk]
    simp [h2]
  | err e w =>
    obtain ⟨k, b, d', hk, h1⟩ := h
    refine ⟨b, d', Evl.of ?_⟩
    have h4 : ev q = _ := Evl.of h1
    rw [hw, h4, weakM_some, hk]
abbrev pTy (L : List Tk) (a : Nat) (d : Int) : Q := q21aw (tks L) (iv a) (iv d)
abbrev pAt (L : List Tk) (a : Nat) (d : Int) : Q := q80aw (tks L) (iv a) (iv d)
abbrev pBt (L : List Tk) (a : Nat) (d : Int) : Q := q46aw (tks L) (iv a) (iv d)
abbrev pLb (L : List Tk) (k : Int) (nm : ByteArray) (z : Int) (a : Nat) (d : Int) (l : List Ty) : Q := q46ab0b (tks L) (iv a) (iv d) (iv k) (sv nm) (iv z) (l.map Ty.cells)
abbrev pLa (L : List Tk) (k : Int) (nm : ByteArray) (z : Int) (a : Nat) (d : Int) : Q := q46ab0a (tks L) (iv a) (iv d) (iv k) (sv nm) (iv z)
abbrev zz : List PV := [iv 0, sv eB, iv 0, .lit (.slice none 0 0)]
def PLb (L : List Tk) (k : Int) (nm : ByteArray) (z : Int) (a : Nat) (d : Int) (l : List Ty) (r : Rz (List Ty)) : Prop := match r with
  | .out => True
  | .ok v b => b < L.length ∧ ev (pLb L k nm z a d l) = some (3, ps L b d (iv k :: sv nm :: iv z :: tys v :: zz))
  | .err e w => ∃ (b : Nat) (d' : Int) (v : List Ty), ev (pLb L k nm z a d l) = some (2, ps L b d' (iv k :: sv nm :: iv z :: tys v :: (zz ++ [iv e, iv w])))
def PLa (L : List Tk) (k : Int) (nm : ByteArray) (z : Int) (a : Nat) (d : Int) (r : Rz (List Ty)) : Prop := match r with
  | .out => True
  | .ok v b => b < L.length ∧ ev (pLa L k nm z a d) = some (match v with
    | [] => (1, ps L b d (iv k :: sv nm :: iv z :: nS :: zz))
    | _ :: _ => (3, ps L b d (iv k :: sv nm :: iv z :: tys v :: zz)))
  | .err e w => ∃ (b : Nat) (d' : Int), (ev (pLa L k nm z a d) = some (0, ps L b d' (iv k :: sv nm :: iv z :: nS :: (zz ++ [iv e, iv w])))) ∨ ∃ v, ev (pLa L k nm z a d) = some (2, ps L b d' (iv k :: sv nm :: iv z :: tys v :: (zz ++ [iv e, iv w])))
structure PrN (L : List Tk) (n : Nat) : Prop where
  ty : ∀ (a : Nat) (d : Int), 0 ≤ d → d ≤ 300 → a < L.length → PrO L (pTy L a d) tyC d (typeF L n d a)
  at_ : ∀ (a : Nat) (d : Int), 0 ≤ d → d ≤ 300 → a < L.length → PrO L (pAt L a d) tyC d (atypeF L n d a)
  bt : ∀ (a : Nat) (d : Int), 0 ≤ d → d ≤ 300 → a < L.length → PrO L (pBt L a d) tyC d (btypeF L n d a)
  aa : ∀ (k : Int) (nm : ByteArray) (z : Int) (a : Nat) (d : Int), 0 ≤ d → d ≤ 300 → a < L.length → PLa L k nm z a d (argsF L n d a [])
  ar : ∀ (k : Int) (nm : ByteArray) (z : Int) (a : Nat) (d : Int) (l : List Ty), 0 ≤ d → d ≤ 300 → a < L.length → l.length + n ≤ 2000000 → PLb L k nm z a d l (argsF L n d a l)
section
variable {L : List Tk} (hW : WfL L)
include hW
theorem p_args {n : Nat} (ih : PrN L n) (k : Int) (nm : ByteArray) (z : Int) (a : Nat) (d : Int) (l : List Ty) (h0 : 0 ≤ d) (h1 : d ≤ 300) (ha : a < L.length) (hl : l.length + (n + 1) ≤ 2000000) : PLb L k nm z a d l (argsF L (n + 1) d a l) := by
  rw [argsF]
  cases hs : stT L a with
  | false =>
    simp only [Bool.false_eq_true, if_false]
    refine ⟨ha, Evl.of ?_⟩
    rw [h46ab0b, g46ab0b]
    simp [p_atypes hW ha, hs, tys]
  | true =>
    simp only [if_true]
    have hat := ih.at_ a d h0 h1 ha
    cases hr : atypeF L n d a with
    | out => trivial
    | err e w =>
      rw [hr] at hat
      obtain ⟨b, d', g⟩ := hat
      refine ⟨b, d', l, Evl.of ?_⟩
      rw [h46ab0b, g46ab0b]
      simp [p_atypes hW ha, hs, g, tys]
    | ok v b =>
      rw [hr] at hat
      obtain ⟨hb, g⟩ := hat
      have hap := fun k' => appK_raw (P := PG) (d := .fail) (k := k') slTy (raw_tys l) (c := tyC v) rfl (by simp) (by simp; omega) (by decide)
      have hn := ih.ar k nm z b d (l ++ [v]) h0 h1 hb (by simp; omega)
      simp only [Rz.bind_ok]
      cases hr2 : argsF L n d b (l ++ [v]) with
      | out => trivial
      | err e w =>
        rw [hr2] at hn
        obtain ⟨b2, d', v2, g2⟩ := hn
        unfold pLb at g2
        rw [List.map_append, List.map_cons, List.map_nil, Ty.cells_eq v] at g2
        refine ⟨b2, d', v2, Evl.of ?_⟩
        rw [h46ab0b, g46ab0b]
        simp [p_atypes hW ha, hs, g, hap, g2]
      | ok v2 b2 =>
        rw [hr2] at hn
        obtain ⟨hb2, g2⟩ := hn
        unfold pLb at g2
        rw [List.map_append, List.map_cons, List.map_nil, Ty.cells_eq v] at g2
        refine ⟨hb2, Evl.of ?_⟩
        rw [h46ab0b, g46ab0b]
        simp [p_atypes hW ha, hs, g, hap, g2]
theorem p_argsA {n : Nat} (ih : PrN L n) (hn2 : n ≤ 1000000) (k : Int) (nm : ByteArray) (z : Int) (a : Nat) (d : Int) (h0 : 0 ≤ d) (h1 : d ≤ 300) (ha : a < L.length) : PLa L k nm z a d (argsF L (n + 1) d a []) := by
  rw [argsF]
  cases hs : stT L a with
  | false =>
    simp only [Bool.false_eq_true, if_false]
    refine ⟨ha, Evl.of ?_⟩
    rw [h46ab0a, g46ab0a]
    simp [p_atypes hW ha, hs]
  | true =>
    simp only [if_true]
    have hat := ih.at_ a d h0 h1 ha
    cases hr : atypeF L n d a with
    | out => trivial
    | err e w =>
      rw [hr] at hat
      obtain ⟨b, d', g⟩ := hat
      refine ⟨b, d', .inl (Evl.of ?_)⟩
      rw [h46ab0a, g46ab0a]
      simp [p_atypes hW ha, hs, g]
    | ok v b =>
      rw [hr] at hat
      obtain ⟨hb, g⟩ := hat
      have hn := ih.ar k nm z b d [v] h0 h1 hb (by simp; omega)
      simp only [Rz.bind_ok, List.nil_append]
      cases hr2 : argsF L n d b [v] with
      | out => trivial
      | err e w =>
        rw [hr2] at hn
        obtain ⟨b2, d', v2, g2⟩ := hn
        unfold pLb at g2
        rw [List.map_cons, List.map_nil, Ty.cells_eq v] at g2
        refine ⟨b2, d', .inr ⟨v2, Evl.of ?_⟩⟩
        rw [h46ab0a, g46ab0a]
        simp [p_atypes hW ha, hs, g, g2]
      | ok v2 b2 =>
        rw [hr2] at hn
        obtain ⟨hb2, g2⟩ := hn
        have hne := argsF_ne hW.len n d b [v] v2 b2 (by simp) hr2
        unfold pLb at g2
        rw [List.map_cons, List.map_nil, Ty.cells_eq v] at g2
        refine ⟨hb2, Evl.of ?_⟩
        cases v2 with
        | nil => exact absurd rfl hne
        | cons x l =>
          rw [h46ab0a, g46ab0a]
          simp [p_atypes hW ha, hs, g, g2]
theorem p_btype {n : Nat} (hat : ∀ (a : Nat) (d : Int), 0 ≤ d → d ≤ 300 → a < L.length → PrO L (pAt L a d) tyC d (atypeF L n d a))
    (haa : ∀ (k : Int) (nm : ByteArray) (z : Int) (a : Nat) (d : Int), 0 ≤ d → d ≤ 300 → a < L.length → PLa L k nm z a d (argsF L n d a []))
    (a : Nat) (d : Int) (h0 : 0 ≤ d) (h1 : d ≤ 300) (ha : a < L.length) : PrO L (pBt L a d) tyC d (btypeF L n d a) := by
  refine PrO.weak (h46aw ev _ _ _) ?_
  unfold btypeF
  by_cases k2 : (tkAt L a).kind = 2
  · rw [if_pos k2]
    have hl := hW.fin a (by omega)
    have ht := haa 3 (tkAt L a).text 0 (a + 1) d h0 h1 hl
    cases hr : argsF L n d (a + 1) [] with
    | out => trivial
    | err e w =>
      rw [hr] at ht
      obtain ⟨b, d', g | ⟨v, g⟩⟩ := ht
      · refine ⟨1, b, d', rfl, ?_⟩
        rw [h46a, g46a]
        simp [-Int.natCast_add, p_next ha, p_any hW ha, Tk.cells, k2, g]
      · refine ⟨1, b, d', rfl, ?_⟩
        rw [h46a, g46a]
        simp [-Int.natCast_add, p_next ha, p_any hW ha, Tk.cells, k2, g]
    | ok v b =>
      rw [hr] at ht
      obtain ⟨hb, g⟩ := ht
      cases v with
      | nil =>
        refine ⟨hb, 0, [iv 3, sv (tkAt L a).text, iv 0, nS], rfl, ?_, by simp [Ty.kind, Ty.name, Ty.n, Ty.kids]⟩
        rw [h46a, g46a]
        simp [-Int.natCast_add, p_next ha, p_any hW ha, Tk.cells, k2, g]
      | cons x0 l0 =>
        refine ⟨hb, 2, [iv 3, sv (tkAt L a).text, iv 0, tys (x0 :: l0)], rfl, ?_, by simp [Ty.kind, Ty.name, Ty.n, Ty.kids]⟩
        rw [h46a, g46a]
        simp [-Int.natCast_add, p_next ha, p_any hW ha, Tk.cells, k2, g]
  · rw [if_neg k2]
    have ht := hat a d h0 h1 ha
    cases hr : atypeF L n d a with
    | out => trivial
    | err e w =>
      rw [hr] at ht
      obtain ⟨b, d', g⟩ := ht
      refine ⟨1, b, d', rfl, ?_⟩
      rw [h46a, g46a]
      simp [-Int.natCast_add, p_next ha, Tk.cells, k2, g]
    | ok x b =>
      rw [hr] at ht
      obtain ⟨hb, g⟩ := ht
      refine ⟨hb, 0, tyC x, rfl, ?_, by simp⟩
      rw [h46a, g46a]
      simp [-Int.natCast_add, p_next ha, Tk.cells, k2, g]
theorem p_atype {n : Nat} (ih : PrN L n) (a : Nat) (d : Int) (h0 : 0 ≤ d) (h1 : d ≤ 300) (ha : a < L.length) : PrO L (pAt L a d) tyC d (atypeF L (n + 1) d a) := by
  refine PrO.weak (h80aw ev _ _ _) ?_
  rw [atypeF]
  by_cases k2 : (tkAt L a).kind = 2
  · rw [if_pos k2]
    refine ⟨hW.fin a (by omega), 0, [iv 3, sv (tkAt L a).text, iv 0, nS], rfl, ?_, by simp [Ty.kind, Ty.name, Ty.n, Ty.kids]⟩
    rw [h80a, g80a]
    simp [-Int.natCast_add, p_any hW ha, Tk.cells, k2]
  · rw [if_neg k2]
    by_cases k1 : (tkAt L a).kind = 1
    · rw [if_pos k1]
      refine ⟨hW.fin a (by omega), 0, [iv 1, sv (tkAt L a).text, iv 0, nS], rfl, ?_, by simp [Ty.kind, Ty.name, Ty.n, Ty.kids]⟩
      rw [h80a, g80a]
      simp [-Int.natCast_add, p_any hW ha, Tk.cells, k2, k1]
    · rw [if_neg k1]
      have ka : (tkAt L a).kind = 7 → (tkAt L a).text = sOp → isT L sOp a = true := fun h1 h2 => by unfold isT; simp [h1, h2]
      cases ho : isT L sOp a with
      | false =>
        simp only [Bool.false_eq_true, if_false]
        refine ⟨1, a + 1, d, rfl, ?_⟩
        rw [h80a, g80a]
        by_cases k7 : (tkAt L a).kind = 7
        · have kx : ¬ (tkAt L a).text = sOp := fun h => by rw [ka k7 h] at ho; cases ho
          simp [-Int.natCast_add, p_any hW ha, Tk.cells, k7, kx, p_fail hW]
        · simp [-Int.natCast_add, p_any hW ha, Tk.cells, k2, k1, k7, p_fail hW]
      | true =>
        simp only [if_true]
        have ho' := ho
        unfold isT at ho'
        rw [Bool.and_eq_true, decide_eq_true_eq, decide_eq_true_eq] at ho'
        have ht7 := hW.top a
        have k7 : (tkAt L a).kind = 7 := by
          rcases Int.lt_or_eq_of_le ht7 with h | h
          · exact absurd ho'.2 (hW.k6 a (by omega)).1
          · exact h
        have kx := ho'.2
        have hl := hW.fin a (by omega)
        cases hc : isT L sCl (a + 1) with
        | true =>
          simp only [if_true]
          refine ⟨hW.fin (a + 1) (by unfold isT at hc; rw [Bool.and_eq_true, decide_eq_true_eq] at hc; omega), 0, [iv 3, sv sUn, iv 0, nS], rfl, ?_, by simp [Ty.kind, Ty.name, Ty.n, Ty.kids]⟩
          rw [h80a, g80a]
          simp [-Int.natCast_add, p_any hW ha, Tk.cells, k7, kx, p_skip hW hl, hc]
        | false =>
          simp only [Bool.false_eq_true, if_false]
          have ht := ih.ty (a + 1) d h0 h1 hl
          cases hr : typeF L n d (a + 1) with
          | out => trivial
          | err e w =>
            rw [hr] at ht
            obtain ⟨b, d', g⟩ := ht
            refine ⟨1, b, d', rfl, ?_⟩
            rw [h80a, g80a]
            simp [-Int.natCast_add, p_any hW ha, Tk.cells, k7, kx, p_skip hW hl, hc, g]
          | ok v b =>
            rw [hr] at ht
            obtain ⟨hb, g⟩ := ht
            simp only [Rz.bind_ok, wantF]
            cases hd : isT L sCl b with
            | true =>
              simp only [if_true]
              refine ⟨hW.fin b (by unfold isT at hd; rw [Bool.and_eq_true, decide_eq_true_eq] at hd; omega), 0, tyC v, rfl, ?_, by simp⟩
              rw [h80a, g80a]
              simp [-Int.natCast_add, p_any hW ha, Tk.cells, k7, kx, p_skip hW hl, hc, g, p_want hW hb, hd]
            | false =>
              simp only [Bool.false_eq_true, if_false]
              refine ⟨1, b, d, rfl, ?_⟩
              rw [h80a, g80a]
              simp [-Int.natCast_add, p_any hW ha, Tk.cells, k7, kx, p_skip hW hl, hc, g, p_want hW hb, hd]
theorem p_type {n : Nat} (ih : PrN L n) (a : Nat) (d : Int) (h0 : 0 ≤ d) (h1 : d ≤ 300) (ha : a < L.length) : PrO L (pTy L a d) tyC d (typeF L (n + 1) d a) := by
  refine PrO.weak (h21aw ev _ _ _) ?_
  rw [typeF_s]
  have hw1 : IntKind.i64.wrap d = d := wrap_id (by omega)
  by_cases hd : 300 < d + 1
  · rw [if_pos hd]
    refine ⟨1, a, d + 1, rfl, ?_⟩
    rw [h21a, g21a]
    simp [-Int.natCast_add, p_down hW ha h0 h1, hd]
  · rw [if_neg hd]
    have ht := ih.bt a (d + 1) (by omega) (by omega) ha
    cases hr : btypeF L n (d + 1) a with
    | out => trivial
    | err e w =>
      rw [hr] at ht
      obtain ⟨b, d', g⟩ := ht
      refine ⟨1, b, IntKind.i64.wrap (d' - 1), rfl, ?_⟩
      rw [h21a, g21a]
      simp [-Int.natCast_add, p_down hW ha h0 h1, hd, g]
    | ok x b =>
      rw [hr] at ht
      obtain ⟨hb, g⟩ := ht
      simp only [Rz.bind_ok]
      cases hc : isT L sArr b with
      | false =>
        simp only [Bool.false_eq_true, if_false]
        refine ⟨hb, 2, tyC x, rfl, ?_, by simp⟩
        rw [h21a, g21a]
        simp [-Int.natCast_add, p_down hW ha h0 h1, hd, g, p_skip hW hb, hc, hw1]
      | true =>
        simp only [if_true]
        have hl := hW.fin b (by unfold isT at hc; rw [Bool.and_eq_true, decide_eq_true_eq] at hc; omega)
        have ht2 := ih.ty (b + 1) (d + 1) (by omega) (by omega) hl
        cases hr2 : typeF L n (d + 1) (b + 1) with
        | out => trivial
        | err e w =>
          rw [hr2] at ht2
          obtain ⟨b2, d', g2⟩ := ht2
          refine ⟨1, b2, IntKind.i64.wrap (d' - 1), rfl, ?_⟩
          rw [h21a, g21a]
          simp [-Int.natCast_add, p_down hW ha h0 h1, hd, g, p_skip hW hb, hc, hw1, g2]
        | ok y c =>
          rw [hr2] at ht2
          obtain ⟨hcl, g2⟩ := ht2
          refine ⟨hcl, 0, [iv 3, sv sArr, iv 0, .rows [tyC x, tyC y]], rfl, ?_, by simp [wdP_rows, wdPss_cons, wdPss_nil, tys_two, Ty.kind, Ty.name, Ty.n, Ty.kids]⟩
          rw [h21a, g21a]
          simp [-Int.natCast_add, p_down hW ha h0 h1, hd, g, p_skip hW hb, hc, hw1, g2]
theorem p_all : ∀ n, n ≤ 1000000 → PrN L n
  | 0, _ => by
    have h1 : ∀ (a : Nat) (d : Int), 0 ≤ d → d ≤ 300 → a < L.length → PrO L (pAt L a d) tyC d (atypeF L 0 d a) := fun a d _ _ _ => by rw [atypeF]; trivial
    have h2 : ∀ (k : Int) (nm : ByteArray) (z : Int) (a : Nat) (d : Int), 0 ≤ d → d ≤ 300 → a < L.length → PLa L k nm z a d (argsF L 0 d a []) := fun k nm z a d _ _ _ => by rw [argsF]; trivial
    exact ⟨fun a d _ _ _ => by rw [typeF]; trivial, h1, p_btype hW h1 h2, h2, fun k nm z a d l _ _ _ _ => by rw [argsF]; trivial⟩
  | n + 1, h => by
    have ih := p_all n (by omega)
    exact ⟨p_type hW ih, p_atype hW ih, p_btype hW (p_atype hW ih) (fun k nm z => p_argsA hW ih (by omega) k nm z), fun k nm z => p_argsA hW ih (by omega) k nm z, fun k nm z a d l => p_args hW ih k nm z a d l⟩
end
end Go.Proofs.YtijcobeebaceoaaGreatDoor
namespace Go.Proofs.YtijcobeebaceoaaGreatDoor
open Go.RowKit
set_option linter.unusedSimpArgs false
set_option linter.unusedVariables false

/-- A type whose rows are not too long. -/
inductive Ty.Ok : Ty → Prop where
  | mk (k : Int) (s : ByteArray) (n : Int) (ks : List Ty) (h : ks.length ≤ maxN) (hk : ∀ t ∈ ks, Ty.Ok t) : Ty.Ok (.mk k s n ks)
theorem Rz.bind_eq {α β : Type} {r : Rz α} {k : α → Nat → Rz β} {v : β} {b : Nat} (h : r.bind k = .ok v b) : ∃ x c, r = .ok x c ∧ k x c = .ok v b := by
  cases r with
  | out => cases h
  | err e w => cases h
  | ok x c => exact ⟨x, c, rfl, h⟩
theorem Rz.bind_no {α β : Type} {r : Rz α} {k : α → Nat → Rz β} (h1 : r ≠ .out) (h2 : ∀ x c, r = .ok x c → k x c ≠ .out) : r.bind k ≠ .out := by
  cases r with
  | out => exact absurd rfl h1
  | err e w => intro h; cases h
  | ok x c => exact h2 x c rfl
section
variable (L : List Tk)
theorem types_go : ∀ n, n ≤ 1000000 →
    (∀ d a v b, typeF L n d a = .ok v b → a < b ∧ v.Ok) ∧ (∀ d a v b, atypeF L n d a = .ok v b → a < b ∧ v.Ok) ∧
    (∀ d a l v b, argsF L n d a l = .ok v b → a ≤ b ∧ v.length ≤ l.length + n ∧ ((∀ t ∈ l, t.Ok) → ∀ t ∈ v, t.Ok))
  | 0, _ => ⟨fun d a v b h => (by rw [typeF] at h; cases h), fun d a v b h => (by rw [atypeF] at h; cases h), fun d a l v b h => (by rw [argsF] at h; cases h)⟩
  | n + 1, hn => by
    obtain ⟨i1, i2, i3⟩ := types_go n (by omega)
    have ok0 : ∀ (k : Int) (s : ByteArray), (Ty.mk k s 0 []).Ok := fun k s => .mk _ _ _ _ (by simp [maxN]) (fun t ht => by cases ht)
    refine ⟨fun d a v b h => ?_, fun d a v b h => ?_, fun d a l v b h => ?_⟩
    · rw [typeF_s] at h
      split at h
      · cases h
      · obtain ⟨x, c, e1, h⟩ := Rz.bind_eq h
        have hx : a < c ∧ x.Ok := by
          unfold btypeF at e1
          split at e1
          · obtain ⟨l, c2, e2, e3⟩ := Rz.bind_eq e1
            cases e3
            obtain ⟨j1, j2, j3⟩ := i3 _ _ _ _ _ e2
            exact ⟨by omega, .mk _ _ _ _ (by simp only [List.length_nil] at j2; unfold maxN; omega) (j3 (fun t ht => by cases ht))⟩
          · exact i2 _ _ _ _ e1
        split at h
        · obtain ⟨y, c2, e2, e3⟩ := Rz.bind_eq h
          cases e3
          obtain ⟨j1, j2⟩ := i1 _ _ _ _ e2
          refine ⟨by omega, .mk _ _ _ _ (by simp [maxN]) (fun t ht => ?_)⟩
          rcases List.mem_cons.1 ht with rfl | ht
          · exact hx.2
          · rw [List.mem_singleton.1 ht]; exact j2
        · cases h
          exact hx
    · rw [atypeF] at h
      split at h
      · cases h; exact ⟨by omega, ok0 _ _⟩
      · split at h
        · cases h; exact ⟨by omega, ok0 _ _⟩
        · split at h
          · split at h
            · cases h; exact ⟨by omega, ok0 _ _⟩
            · obtain ⟨x, c, e1, h⟩ := Rz.bind_eq h
              obtain ⟨u, c2, e2, h⟩ := Rz.bind_eq h
              cases h
              unfold wantF at e2
              split at e2
              · cases e2
                have := i1 _ _ _ _ e1
                exact ⟨by omega, this.2⟩
              · cases e2
          · cases h
    · rw [argsF] at h
      split at h
      · obtain ⟨x, c, e1, h⟩ := Rz.bind_eq h
        obtain ⟨j1, j2, j3⟩ := i3 _ _ _ _ _ h
        have hx := i2 _ _ _ _ e1
        refine ⟨by omega, by simp at j2; omega, fun hl => j3 fun t ht => ?_⟩
        rcases List.mem_append.1 ht with ht | ht
        · exact hl t ht
        · rw [List.mem_singleton.1 ht]; exact hx.2
      · cases h
        exact ⟨Nat.le_refl _, by omega, fun hl => hl⟩
theorem types_no : ∀ n, n ≤ 1000000 →
    (∀ d a, 2 * (L.length - a) + 2 ≤ n → typeF L n d a ≠ .out) ∧ (∀ d a, 2 * (L.length - a) + 1 ≤ n → atypeF L n d a ≠ .out) ∧
    (∀ d a l, 2 * (L.length - a) + 2 ≤ n → argsF L n d a l ≠ .out)
  | 0, _ => ⟨fun d a h => (by omega), fun d a h => (by omega), fun d a l h => (by omega)⟩
  | n + 1, hn => by
    obtain ⟨i1, i2, i3⟩ := types_no n (by omega)
    obtain ⟨g1, g2, g3⟩ := types_go L n (by omega)
    refine ⟨fun d a h => ?_, fun d a h => ?_, fun d a l h => ?_⟩
    · rw [typeF_s]
      split
      · intro h; cases h
      · have hb : ∀ x c, btypeF L n (d + 1) a = .ok x c → a < c := by
          intro x c e1
          unfold btypeF at e1
          split at e1
          · obtain ⟨l, c2, e2, e3⟩ := Rz.bind_eq e1
            cases e3
            have := (g3 _ _ _ _ _ e2).1
            omega
          · exact (g2 _ _ _ _ e1).1
        refine Rz.bind_no ?_ fun x c e => ?_
        · unfold btypeF
          split
          · rename_i hk
            have := tkAt_in (L := L) (a := a) (by omega)
            refine Rz.bind_no (i3 _ _ _ (by omega)) fun l c e => by intro h; cases h
          · exact i2 _ _ (by omega)
        · have h1 := hb x c e
          split
          · rename_i hk
            have := isT_in hk
            refine Rz.bind_no (i1 _ _ (by omega)) fun y c e => by intro h; cases h
          · intro h; cases h
    · rw [atypeF]
      split
      · intro h; cases h
      · split
        · intro h; cases h
        · split
          · rename_i hk
            have := isT_in hk
            split
            · intro h; cases h
            · refine Rz.bind_no (i1 _ _ (by omega)) fun x c e => ?_
              unfold wantF
              split <;> (intro h; cases h)
          · intro h; cases h
    · rw [argsF]
      split
      · rename_i hk
        have := stT_in hk
        refine Rz.bind_no (i2 _ _ (by omega)) fun x c e => ?_
        have := (g2 _ _ _ _ e).1
        exact i3 _ _ _ (by omega)
      · intro h; cases h
end
end Go.Proofs.YtijcobeebaceoaaGreatDoor
namespace Go.Proofs.YtijcobeebaceoaaGreatDoor
open Go.RowKit
set_option linter.unusedSimpArgs false
set_option linter.unusedVariables false
set_option linter.unusedSectionVars false

theorem same_loop {α : Type} (l : List α) (q : Nat → Q) (r : Rs) (hl : l.length ≤ maxN)
    (hs : ∀ (i j : Nat) (x : α), IntKind.i64.wrap ((i : Int) + 1) = (j : Int) → l[i]? = some x → (i : Int) < (l.length : Int) → x ∈ l → body PG EE TT ev (q i) = passK (ev (q j)))
    (he : body PG EE TT ev (q l.length) = .ok r) : ev (q 0) = some r := by
  have h : ∀ (m i : Nat), i + m = l.length → ev (q i) = some r := by
    intro m
    induction m with
    | zero => intro i hi; rw [Nat.add_zero] at hi; rw [hi]; exact Evl.of he
    | succ m ih =>
      intro i hi
      have hi' : i < l.length := by omega
      obtain ⟨j, hj⟩ : ∃ j, j = i + 1 := ⟨_, rfl⟩
      exact Evl.of (by rw [hs i j l[i] (by rw [wrap_id (by unfold maxN at hl; omega)]; omega) (List.getElem?_eq_getElem hi') (by omega) (List.getElem_mem hi'), ih j (by omega)]; rfl)
  exact h l.length 0 (by omega)
def SamT (t : Ty) : Prop := ev (q9 (iv t.kind) (sv t.name) (iv t.n) (tys t.kids) (iv t.kind) (sv t.name) (iv t.n) (tys t.kids)) = some (0, [bv true])
theorem types_same (l : List Ty) (hl : l.length ≤ maxN) (h : ∀ x ∈ l, SamT x) : ev (q25 (tys l) (tys l)) = some (0, [bv true]) := by
  have lp : ev (q25b0a (iv 0) (tys l) (tys l)) = some (1, []) := same_loop l (fun i0 => q25b0a (iv (i0 : Int)) (tys l) (tys l)) (1, []) (by assumption) (fun i0 j0 x e0 hx hi0 hm => by
      show body PG EE TT ev (q25b0a (iv (i0 : Int)) (tys l) (tys l)) = passK (ev (q25b0a (iv (j0 : Int)) (tys l) (tys l)))
      rw [h25b0a, g25b0a]
      simp [hi0, idxK_tys hx]
      have g := h x hm; unfold SamT at g; simp [g]
      simp [e0]) (by
      show body PG EE TT ev (q25b0a (iv (l.length : Int)) (tys l) (tys l)) = _
      rw [h25b0a, g25b0a]
      simp)
  exact Evl.of (by rw [h25, g25]; simp [lp])
theorem type_same {t : Ty} (h : t.Ok) : SamT t := by
  induction h with
  | mk k s n ks hl hk ih =>
    have g := types_same ks hl ih
    exact Evl.of (by rw [h9, g9]; simp [Ty.kind, Ty.name, Ty.n, Ty.kids, g])
end Go.Proofs.YtijcobeebaceoaaGreatDoor
