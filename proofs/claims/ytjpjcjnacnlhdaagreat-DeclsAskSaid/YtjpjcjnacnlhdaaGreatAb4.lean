/- Operations that only look, one by one. -/
import Derived.Test.YtjpjcjnacnlhdaaGreatAb3
import Derived.Laws.Tables
namespace Go.Proofs.YtjpjcjnacnlhdaaGreat
open Go.RowKit

def setAt {α : Type} (l : List α) (off : Nat) (vs : List α) : List α := l.take off ++ vs ++ l.drop (off + vs.length)
theorem VL.setAt {K : Kn} {l vs : List AV} {cs us : List Value} (h : VL K l cs) (hv : VL K vs us) (off : Nat) : VL K (setAt l off vs) (setAt cs off us) := by
  unfold Proofs.YtjpjcjnacnlhdaaGreat.setAt
  rw [hv.1]
  exact ((h.take off).append hv).append (h.drop _)
/-- The parts of a composite, laid over its zero value. -/
def fillA (place : Nat → Option (Nat × Nat)) : List AV → List (Nat × AV) → Option (List AV)
  | cells, [] => some cells
  | cells, (i, v) :: rest => match place i with
    | none => none
    | some (off, size) => if v.cells.length ≠ size ∨ off + v.cells.length > cells.length then none else fillA place (setAt cells off v.cells) rest
theorem foldl_setAt (off : Nat) (l : List Value) (cs : Array Value) (h : off + l.length ≤ cs.size) :
    (l.toArray.zipIdx.foldl (fun cs (x : Value × Nat) => cs.setIfInBounds (off + x.2) x.1) cs).toList = setAt cs.toList off l := by
  obtain ⟨h1, h2⟩ := Great.foldl_set off l 0 cs
  have e : l.toArray.zipIdx.foldl (fun cs (x : Value × Nat) => cs.setIfInBounds (off + x.2) x.1) cs = (l.zipIdx 0).foldl (fun cs (x : Value × Nat) => cs.setIfInBounds (off + x.2) x.1) cs := by
    rw [← Array.foldl_toList]; simp
  rw [e]
  apply List.ext_getElem?
  intro k
  rw [Array.getElem?_toList, h2 k]
  unfold setAt
  by_cases hk : k < off
  · rw [if_neg (by omega), List.append_assoc, List.getElem?_append_left (by simp; omega), List.getElem?_take, if_pos hk, Array.getElem?_toList]
  · by_cases hk2 : k < off + l.length
    · rw [if_pos ⟨by omega, by omega, by omega⟩, List.getElem?_append_left (by simp; omega), List.getElem?_append_right (by simp; omega)]
      congr 1
      simp
      omega
    · rw [if_neg (by omega), List.getElem?_append_right (by simp; omega), List.getElem?_drop, Array.getElem?_toList]
      congr 1
      simp
      omega
theorem fillA_sound {K : Kn} (place : Nat → Option (Nat × Nat)) : ∀ (ps : List (Nat × AV)) (qs : List (Nat × Value)) (cells : List AV) (cs : Array Value) (out : List AV),
    VL K cells cs.toList → ps.length = qs.length → (∀ i (h : i < ps.length) (h' : i < qs.length), ps[i].1 = qs[i].1 ∧ VR K ps[i].2 qs[i].2) →
    fillA place cells ps = some out → ∃ us, Instr.fill place cs qs = some us ∧ VL K out us.toList
  | [], [], cells, cs, out, hv, _, _, h => by cases h; exact ⟨cs, rfl, hv⟩
  | [], _ :: _, _, _, _, _, hl, _, _ => by simp at hl
  | _ :: _, [], _, _, _, _, hl, _, _ => by simp at hl
  | (i, v) :: ps, (j, u) :: qs, cells, cs, out, hv, hl, hp, h => by
    obtain ⟨e, hvu⟩ := hp 0 (by simp) (by simp)
    simp only [List.getElem_cons_zero] at e hvu
    subst e
    rw [fillA] at h
    rw [Instr.fill]
    cases hpl : place i with
    | none => rw [hpl] at h; cases h
    | some x =>
      obtain ⟨off, size⟩ := x
      rw [hpl] at h
      simp only at h ⊢
      split at h
      · cases h
      · rename_i hcond
        have hc := hvu.cells
        have hsz : v.cells.length = u.cells.size := by have := hc.1; simpa using this
        have hcl : cells.length = cs.size := by have := hv.1; simpa using this
        rw [if_neg (by simp; omega)]
        have hu : u.cells = u.cells.toList.toArray := by simp
        have hfold := foldl_setAt off u.cells.toList cs (by simp; omega)
        rw [← hu] at hfold
        refine fillA_sound place ps qs (setAt cells off v.cells) _ out ?_ (by simpa using hl) (fun k hk hk' => hp (k + 1) (by simpa using hk) (by simpa using hk')) h
        rw [hfold]
        exact hv.setAt hc off
def zeroA (P : Program) (t : TypeId) : Option (List AV) := match P.info? t with
  | some i => match i.zero with
    | some z => if z.cells.toList.all plainV then some (z.cells.toList.map fun v => .pv (.lit v)) else none
    | none => none
  | none => none
theorem zeroA_sound {K : Kn} {P : Program} {t : TypeId} {l : List AV} (h : zeroA P t = some l) : ∃ i z, P.info? t = some i ∧ i.zero = some z ∧ VL K l z.cells.toList := by
  unfold zeroA at h
  cases hi : P.info? t with
  | none => rw [hi] at h; cases h
  | some i =>
    rw [hi] at h
    cases hz : i.zero with
    | none => simp only [hz] at h; cases h
    | some z =>
      simp only [hz] at h
      split at h
      · rename_i hp
        cases h
        refine ⟨i, z, rfl, hz, by simp, fun k hk hk' => ?_⟩
        simp only [List.getElem_map]
        refine .pv (.lit _ ?_)
        rw [List.all_eq_true] at hp
        exact hp _ (List.getElem_mem _)
      · cases h
def placesA (P : Program) : List Field → Option (List (Nat × Nat))
  | [] => some []
  | f :: fs => match P.info? f.type, placesA P fs with
    | some i, some l => some ((f.offset, i.size) :: l)
    | _, _ => none
theorem placesA_eq {P : Program} : ∀ (fs : List Field) (l : List (Nat × Nat)), placesA P fs = some l → fs.mapM (fun f => (P.info? f.type).map fun i => (f.offset, i.size)) = some l
  | [], l, h => by cases h; rfl
  | f :: fs, l, h => by
    rw [placesA] at h
    split at h
    · rename_i i r hi hr
      cases h
      simp [List.mapM_cons, hi, placesA_eq fs r hr]
    · cases h
def buildA (P : Program) (t : TypeId) (ps : List (Nat × AV)) : Option (List AV) :=
  match zeroA P t, P.underlying t with
  | some zc, some (.struct fs) => match placesA P fs.toList with
    | some pl => fillA (pl[·]?) zc ps
    | none => none
  | some zc, some (.array _ e) => match szA P e with
    | some s => fillA (fun i => some (i * s, s)) zc ps
    | none => none
  | _, _ => none
theorem buildA_sound {K : Kn} {P : Program} {t : TypeId} {ps : List (Nat × AV)} {qs : List (Nat × Value)} {out : List AV} (hl : ps.length = qs.length)
    (hp : ∀ i (h : i < ps.length) (h' : i < qs.length), ps[i].1 = qs[i].1 ∧ VR K ps[i].2 qs[i].2) (h : buildA P t ps = some out) :
    ∃ us, P.built t qs = some us ∧ VL K out us.toList := by
  unfold buildA at h
  split at h
  · rename_i zc fs hz hu
    obtain ⟨i, z, hi, hiz, hvz⟩ := zeroA_sound (K := K) hz
    split at h
    · rename_i pl hpl
      obtain ⟨us, hf, hv⟩ := fillA_sound _ ps qs zc z.cells out hvz hl hp h
      refine ⟨us, ?_, hv⟩
      simp only [Program.built, hi, hu, hiz, placesA_eq _ _ hpl]
      simpa using hf
    · cases h
  · rename_i zc n e hz hu
    obtain ⟨i, z, hi, hiz, hvz⟩ := zeroA_sound (K := K) hz
    split at h
    · rename_i s hs
      obtain ⟨us, hf, hv⟩ := fillA_sound _ ps qs zc z.cells out hvz hl hp h
      refine ⟨us, ?_, hv⟩
      unfold szA at hs
      cases hie : P.info? e with
      | none => rw [hie] at hs; cases hs
      | some ie =>
        rw [hie] at hs
        cases hs
        simp only [Program.built, hi, hu, hiz, hie]
        exact hf
    · cases h
  · cases h
/-- The parts' operands. -/
def partsA (ρ : Operand → Option AV) : List (Nat × Operand) → Option (List (Nat × AV))
  | [] => some []
  | (i, x) :: l => match ρ x, partsA ρ l with
    | some v, some r => some ((i, v) :: r)
    | _, _ => none
def evParts (ρ : Operand → Value) (l : List (Nat × Operand)) : List (Nat × Value) := l.map fun p => (p.1, ρ p.2)
theorem partsA_sound {K : Kn} {ρA : Operand → Option AV} {ρ : Operand → Value} (hρ : ∀ x v, ρA x = some v → VR K v (ρ x)) : ∀ (l : List (Nat × Operand)) (ps : List (Nat × AV)), partsA ρA l = some ps →
    ps.length = (evParts ρ l).length ∧ ∀ i (h : i < ps.length) (h' : i < (evParts ρ l).length), ps[i].1 = (evParts ρ l)[i].1 ∧ VR K ps[i].2 (evParts ρ l)[i].2
  | [], ps, h => by cases h; exact ⟨rfl, fun i h => by simp at h⟩
  | (i, x) :: l, ps, h => by
    rw [partsA] at h
    split at h
    · rename_i v r hv hr
      cases h
      obtain ⟨h1, h2⟩ := partsA_sound hρ l r hr
      refine ⟨by simpa [evParts] using h1, fun k hk hk' => ?_⟩
      cases k with
      | zero => exact ⟨rfl, hρ x v hv⟩
      | succ k => exact h2 k (by simpa using hk) (by simpa [evParts] using hk')
    · cases h
def opsA (ρ : Operand → Option AV) : List Operand → Option (List AV)
  | [] => some []
  | x :: l => match ρ x, opsA ρ l with
    | some v, some r => some (v :: r)
    | _, _ => none
theorem opsA_sound {K : Kn} {ρA : Operand → Option AV} {ρ : Operand → Value} (hρ : ∀ x v, ρA x = some v → VR K v (ρ x)) : ∀ (l : List Operand) (vs : List AV), opsA ρA l = some vs → VL K vs (l.map ρ)
  | [], vs, h => by cases h; exact ⟨rfl, fun i h => by simp at h⟩
  | x :: l, vs, h => by
    rw [opsA] at h
    split at h
    · rename_i v r hv hr
      cases h
      obtain ⟨h1, h2⟩ := opsA_sound hρ l r hr
      refine ⟨by simpa using h1, fun k hk hk' => ?_⟩
      cases k with
      | zero => exact hρ x v hv
      | succ k => exact h2 k (by simpa using hk) (by simpa using hk')
    · cases h
end Go.Proofs.YtjpjcjnacnlhdaaGreat
