/- Values, decisions, patterns as data; what stands at a path. -/
import Derived.Test.YtmgmknpgikgnlaaGreatTa1
namespace Go.Proofs.YtmgmknpgikgnlaaGreat
open Go.RowKit

inductive Vl where
  | mk (kind n : Int) (name : ByteArray) (kids : List Vl)
mutual
def Vl.cells : Vl → List PV
  | .mk k n s ks => [iv k, iv n, sv s, .rows (Vl.rows ks)]
def Vl.rows : List Vl → List (List PV)
  | [] => []
  | v :: l => v.cells :: Vl.rows l
end
mutual
inductive Dc where
  | mk (kind alt : Int) (path : List Int) (cases : List Cs) (els : List Dc)
inductive Cs where
  | mk (kind : Int) (name : ByteArray) (n : Int) (d : Dc)
end
mutual
def Dc.cells : Dc → List PV
  | .mk k a p cs es => [iv k, iv a, ints p, .rows (Cs.rows cs), .rows (Dc.rows es)]
def Cs.cells : Cs → List PV
  | .mk k s n d => iv k :: sv s :: iv n :: d.cells
def Cs.rows : List Cs → List (List PV)
  | [] => []
  | v :: l => v.cells :: Cs.rows l
def Dc.rows : List Dc → List (List PV)
  | [] => []
  | v :: l => v.cells :: Dc.rows l
end
inductive Pt where
  | mk (kind : Int) (name : ByteArray) (n : Int) (kids : List Pt) (at_ : Int)
mutual
def Pt.cells : Pt → List PV
  | .mk k s n ks a => [iv k, sv s, iv n, .rows (Pt.rows ks), iv a]
def Pt.rows : List Pt → List (List PV)
  | [] => []
  | v :: l => v.cells :: Pt.rows l
end
theorem Vl.rows_eq : ∀ l, Vl.rows l = l.map Vl.cells
  | [] => by rw [Vl.rows]; rfl
  | v :: l => by rw [Vl.rows, Vl.rows_eq l]; rfl
theorem Cs.rows_eq : ∀ l, Cs.rows l = l.map Cs.cells
  | [] => by rw [Cs.rows]; rfl
  | v :: l => by rw [Cs.rows, Cs.rows_eq l]; rfl
theorem Dc.rows_eq : ∀ l, Dc.rows l = l.map Dc.cells
  | [] => by rw [Dc.rows]; rfl
  | v :: l => by rw [Dc.rows, Dc.rows_eq l]; rfl
theorem Pt.rows_eq : ∀ l, Pt.rows l = l.map Pt.cells
  | [] => by rw [Pt.rows]; rfl
  | v :: l => by rw [Pt.rows, Pt.rows_eq l]; rfl
mutual
theorem Vl.ns : ∀ (v : Vl), ∀ p ∈ v.cells, NS p
  | .mk k n s ks, p, hp => by
    have := Vl.nsL ks
    rw [Vl.cells] at hp
    simp only [List.mem_cons, List.not_mem_nil, or_false] at hp
    rcases hp with rfl | rfl | rfl | rfl
    · exact .lit _
    · exact .lit _
    · exact .lit _
    · exact .rows _ this
theorem Vl.nsL : ∀ (l : List Vl), ∀ c ∈ Vl.rows l, ∀ p ∈ c, NS p
  | [], c, hc, _, _ => by simp [Vl.rows] at hc
  | v :: l, c, hc, p, hp => by
    have h1 := Vl.ns v
    have h2 := Vl.nsL l
    rw [Vl.rows, List.mem_cons] at hc
    rcases hc with rfl | hc
    · exact h1 p hp
    · exact h2 c hc p hp
end
mutual
theorem Dc.ns : ∀ (v : Dc), ∀ p ∈ v.cells, NS p
  | .mk k a q cs es, p, hp => by
    have h1 := Cs.nsL cs
    have h2 := Dc.nsL es
    rw [Dc.cells] at hp
    simp only [List.mem_cons, List.not_mem_nil, or_false] at hp
    rcases hp with rfl | rfl | rfl | rfl | rfl
    · exact .lit _
    · exact .lit _
    · exact ns_ints _
    · exact .rows _ h1
    · exact .rows _ h2
theorem Cs.ns : ∀ (v : Cs), ∀ p ∈ v.cells, NS p
  | .mk k s n d, p, hp => by
    have h1 := Dc.ns d
    rw [Cs.cells] at hp
    simp only [List.mem_cons] at hp
    rcases hp with rfl | rfl | rfl | hp
    · exact .lit _
    · exact .lit _
    · exact .lit _
    · exact h1 p hp
theorem Cs.nsL : ∀ (l : List Cs), ∀ c ∈ Cs.rows l, ∀ p ∈ c, NS p
  | [], c, hc, _, _ => by simp [Cs.rows] at hc
  | v :: l, c, hc, p, hp => by
    have h1 := Cs.ns v
    have h2 := Cs.nsL l
    rw [Cs.rows, List.mem_cons] at hc
    rcases hc with rfl | hc
    · exact h1 p hp
    · exact h2 c hc p hp
theorem Dc.nsL : ∀ (l : List Dc), ∀ c ∈ Dc.rows l, ∀ p ∈ c, NS p
  | [], c, hc, _, _ => by simp [Dc.rows] at hc
  | v :: l, c, hc, p, hp => by
    have h1 := Dc.ns v
    have h2 := Dc.nsL l
    rw [Dc.rows, List.mem_cons] at hc
    rcases hc with rfl | hc
    · exact h1 p hp
    · exact h2 c hc p hp
end
mutual
theorem Pt.ns : ∀ (v : Pt), ∀ p ∈ v.cells, NS p
  | .mk k s n ks a, p, hp => by
    have := Pt.nsL ks
    rw [Pt.cells] at hp
    simp only [List.mem_cons, List.not_mem_nil, or_false] at hp
    rcases hp with rfl | rfl | rfl | rfl | rfl
    · exact .lit _
    · exact .lit _
    · exact .lit _
    · exact .rows _ this
    · exact .lit _
theorem Pt.nsL : ∀ (l : List Pt), ∀ c ∈ Pt.rows l, ∀ p ∈ c, NS p
  | [], c, hc, _, _ => by simp [Pt.rows] at hc
  | v :: l, c, hc, p, hp => by
    have h1 := Pt.ns v
    have h2 := Pt.nsL l
    rw [Pt.rows, List.mem_cons] at hc
    rcases hc with rfl | hc
    · exact h1 p hp
    · exact h2 c hc p hp
end
/-- A list of values as a row. -/
def vls (l : List Vl) : PV := .rows (l.map Vl.cells)
def css (l : List Cs) : PV := .rows (l.map Cs.cells)
def dcs (l : List Dc) : PV := .rows (l.map Dc.cells)
def pts (l : List Pt) : PV := .rows (l.map Pt.cells)
@[simp] theorem ns_vls (l : List Vl) : NS (vls l) := by rw [vls, ← Vl.rows_eq]; exact .rows _ (Vl.nsL l)
@[simp] theorem ns_css (l : List Cs) : NS (css l) := by rw [css, ← Cs.rows_eq]; exact .rows _ (Cs.nsL l)
@[simp] theorem ns_dcs (l : List Dc) : NS (dcs l) := by rw [dcs, ← Dc.rows_eq]; exact .rows _ (Dc.nsL l)
@[simp] theorem ns_pts (l : List Pt) : NS (pts l) := by rw [pts, ← Pt.rows_eq]; exact .rows _ (Pt.nsL l)
theorem Vl.cells_mk (k n : Int) (s : ByteArray) (ks : List Vl) : (Vl.mk k n s ks).cells = [iv k, iv n, sv s, vls ks] := by rw [Vl.cells, Vl.rows_eq, vls]
theorem Dc.cells_mk (k a : Int) (p : List Int) (cs : List Cs) (es : List Dc) : (Dc.mk k a p cs es).cells = [iv k, iv a, ints p, css cs, dcs es] := by rw [Dc.cells, Cs.rows_eq, Dc.rows_eq, css, dcs]
theorem Cs.cells_mk (k : Int) (s : ByteArray) (n : Int) (d : Dc) : (Cs.mk k s n d).cells = iv k :: sv s :: iv n :: d.cells := by rw [Cs.cells]
theorem Pt.cells_mk (k : Int) (s : ByteArray) (n : Int) (ks : List Pt) (a : Int) : (Pt.mk k s n ks a).cells = [iv k, sv s, iv n, pts ks, iv a] := by rw [Pt.cells, Pt.rows_eq, pts]
theorem s23 : SlT Tryz.prog 23 8 120 := SlT.of (by kernel_rfl)
theorem s24 : SlT Tryz.prog 24 5 88 := SlT.of (by kernel_rfl)
theorem s27 : SlT Tryz.prog 27 4 56 := SlT.of (by kernel_rfl)
theorem s30 : SlT Tryz.prog 30 5 64 := SlT.of (by kernel_rfl)
/-! Lengths and elements. -/
section
variable {r : AV}
@[simp] theorem len_ints (l : List Int) : LenOk Tryz.prog 22 (.pv (ints l)) r ↔ r = .pv (iv l.length) := by rw [ints, len_ok s22, List.length_map]
@[simp] theorem len_vls (l : List Vl) : LenOk Tryz.prog 27 (.pv (vls l)) r ↔ r = .pv (iv l.length) := by rw [vls, len_ok s27, List.length_map]
@[simp] theorem len_css (l : List Cs) : LenOk Tryz.prog 23 (.pv (css l)) r ↔ r = .pv (iv l.length) := by rw [css, len_ok s23, List.length_map]
@[simp] theorem len_dcs (l : List Dc) : LenOk Tryz.prog 24 (.pv (dcs l)) r ↔ r = .pv (iv l.length) := by rw [dcs, len_ok s24, List.length_map]
@[simp] theorem len_pts (l : List Pt) : LenOk Tryz.prog 30 (.pv (pts l)) r ↔ r = .pv (iv l.length) := by rw [pts, len_ok s30, List.length_map]
theorem idx_ints {l : List Int} {k : Nat} {x : Int} (h : l[k]? = some x) : IdxOk Tryz.prog 22 (.pv (ints l)) (.pv (.lit (.int .i64 (k : Int)))) r ↔ r = .cptr [iv x] := by rw [ints]; exact idx_ok s22 (ints_at h) rfl
theorem idx_vls {l : List Vl} {i : Nat} {k n : Int} {s : ByteArray} {ks : List Vl} (h : l[i]? = some (.mk k n s ks)) : IdxOk Tryz.prog 27 (.pv (vls l)) (.pv (.lit (.int .i64 (i : Int)))) r ↔ r = .cptr [iv k, iv n, sv s, vls ks] := by
  rw [vls]; exact idx_ok s27 (by rw [List.getElem?_map, h, Option.map_some, Vl.cells_mk]) rfl
theorem idx_dcs {l : List Dc} {i : Nat} {k a : Int} {p : List Int} {cs : List Cs} {es : List Dc} (h : l[i]? = some (.mk k a p cs es)) : IdxOk Tryz.prog 24 (.pv (dcs l)) (.pv (.lit (.int .i64 (i : Int)))) r ↔ r = .cptr [iv k, iv a, ints p, css cs, dcs es] := by
  rw [dcs]; exact idx_ok s24 (by rw [List.getElem?_map, h, Option.map_some, Dc.cells_mk]) rfl
theorem idx_css {l : List Cs} {i : Nat} {k0 n0 : Int} {s0 : ByteArray} {k a : Int} {p : List Int} {cs : List Cs} {es : List Dc} (h : l[i]? = some (.mk k0 s0 n0 (.mk k a p cs es))) : IdxOk Tryz.prog 23 (.pv (css l)) (.pv (.lit (.int .i64 (i : Int)))) r ↔ r = .cptr [iv k0, sv s0, iv n0, iv k, iv a, ints p, css cs, dcs es] := by
  rw [css]; exact idx_ok s23 (by rw [List.getElem?_map, h, Option.map_some, Cs.cells_mk, Dc.cells_mk]) rfl
theorem idx_pts {l : List Pt} {i : Nat} {k : Int} {s : ByteArray} {n : Int} {ks : List Pt} {a : Int} (h : l[i]? = some (.mk k s n ks a)) : IdxOk Tryz.prog 30 (.pv (pts l)) (.pv (.lit (.int .i64 (i : Int)))) r ↔ r = .cptr [iv k, sv s, iv n, pts ks, iv a] := by
  rw [pts]; exact idx_ok s30 (by rw [List.getElem?_map, h, Option.map_some, Pt.cells_mk]) rfl
end
theorem wrap_succ {k : Nat} (h : k < 1000000000000) : IntKind.i64.wrap ((k : Int) + 1) = ((k + 1 : Nat) : Int) := by rw [wrap_id (by omega)]; omega
/-- What stands at a path. -/
def Vl.at : Vl → List Int → Option Vl
  | v, [] => some v
  | .mk _ _ _ ks, i :: p => if 0 ≤ i then match ks[i.toNat]? with
      | some v => v.at p
      | none => none
    else none
/-! at, by a loop. -/
abbrev zeroVal : AObj := .box 29 [.pv (iv 0), .pv (iv 0), .pv (sv ⟨#[]⟩), .pv (.lit (.slice none 0 0))]
def bx : Vl → AObj
  | .mk k n s ks => .box 29 [.pv (iv k), .pv (iv n), .pv (sv s), .pv (vls ks)]
def st17 (i : Nat) (p : List Int) : Env := [(10, .pv (iv i)), (9, .pv (iv p.length)), (8, .pv (ints p)), (2, .ptr 0 0), (4, .ptr 1 0)]
theorem loop17 (p : List Int) (hb : p.length < 1000000000000) : ∀ (m i : Nat) (y : Vl), p.length - i = m → i ≤ p.length →
    (∃ z, y.at (p.drop i) = some z ∧ LoopS Tryz.prog Tryz.f17 0 2 (st17 i p) [bx y, zeroVal] (.exit 0) [(2, .ptr 0 0), (4, .ptr 1 0)] [bx z, zeroVal]) ∨
    (∃ z, y.at (p.drop i) = none ∧ LoopS Tryz.prog Tryz.f17 0 2 (st17 i p) [bx y, zeroVal] .ret [(4, .ptr 1 0), (5, .pv (bv false))] [bx z, zeroVal]) := by
  intro m
  induction m with
  | zero =>
    rintro i ⟨k, n, s, ks⟩ hm hk
    refine .inl ⟨.mk k n s ks, by rw [List.drop_of_length_le (by omega), Vl.at], ?_⟩
    refine LoopS.done (L17b0a _ _ _ _ _ _ _ (by simp) (by simp [H17b0a]) ?_) (by simp)
    have hk' : ¬ i < p.length := by omega
    simp [T17b0a, hk', bx]
  | succ m ih =>
    rintro i ⟨k, n, s, ks⟩ hm hk
    have hk1 : i < p.length := by omega
    have hx : p[i]? = some p[i] := List.getElem?_eq_getElem hk1
    rw [List.drop_eq_getElem_cons hk1]
    have hw := wrap_succ (k := i) (by omega)
    by_cases h0 : p[i] < 0
    · refine .inr ⟨.mk k n s ks, by rw [Vl.at, if_neg (by omega)], ?_⟩
      refine LoopS.done (L17b0a _ _ _ _ _ _ _ (by simp) (by simp [H17b0a]) ?_) (by simp)
      simp [T17b0a, hk1, idx_ints hx, h0, bx]
    · obtain ⟨j, hj⟩ : ∃ j : Nat, p[i] = j := ⟨p[i].toNat, by omega⟩
      rw [hj] at hx ⊢
      by_cases h1 : ks.length ≤ j
      · refine .inr ⟨.mk k n s ks, by rw [Vl.at, if_pos (by omega), Int.toNat_natCast, List.getElem?_eq_none h1], ?_⟩
        refine LoopS.done (L17b0a _ _ _ _ _ _ _ (by simp) (by simp [H17b0a]) ?_) (by simp)
        simp [T17b0a, hk1, idx_ints hx, h1, bx]
      · obtain ⟨⟨k1, n1, s1, ks1⟩, hy⟩ : ∃ y, ks[j]? = some y := ⟨ks[j], List.getElem?_eq_getElem (by omega)⟩
        have hat : (Vl.mk k n s ks).at ((j : Int) :: p.drop (i + 1)) = (Vl.mk k1 n1 s1 ks1).at (p.drop (i + 1)) := by rw [Vl.at, if_pos (by omega), Int.toNat_natCast, hy]
        rw [hat]
        have h1' : ¬ ((ks.length : Int) ≤ (j : Int)) := by omega
        rcases ih (i + 1) (.mk k1 n1 s1 ks1) (by omega) (by omega) with ⟨z, g1, g2⟩ | ⟨z, g1, g2⟩
        · refine .inl ⟨z, g1, LoopS.again (L17b0a _ _ _ _ _ _ _ (by simp) (by simp [H17b0a]) ?_) g2⟩
          simp [T17b0a, st17, hk1, idx_ints hx, h1', idx_vls hy, hw, bx]
        · refine .inr ⟨z, g1, LoopS.again (L17b0a _ _ _ _ _ _ _ (by simp) (by simp [H17b0a]) ?_) g2⟩
          simp [T17b0a, st17, hk1, idx_ints hx, h1', idx_vls hy, hw, bx]
end Go.Proofs.YtmgmknpgikgnlaaGreat
