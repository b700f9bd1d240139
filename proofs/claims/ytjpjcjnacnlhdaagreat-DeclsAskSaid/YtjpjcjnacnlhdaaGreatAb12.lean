/- 'eop' is right; a part of the heap, by other names. -/
import Derived.Test.YtjpjcjnacnlhdaaGreatAb11
namespace Go.Proofs.YtjpjcjnacnlhdaaGreat
open Go.RowKit

section
variable {P : Program} {o : Oper} {ρ : Operand → Value} {ρA : Operand → Option AV} {K : Kn} {h : List AObj} {w : World}

theorem eop_sound (H : WR K h w) (hρ : ∀ x v, ρA x = some v → VR K v (ρ x)) {v : AV} {h' : List AObj} {touch : List Nat} (hq : eop P o.op ρA h = some (v, h', touch)) : Eff P o ρ K h w v h' touch := by
  unfold eop at hq
  split at hq
  · rename_i t ho
    split at hq
    · rename_i l hz
      cases hq
      exact alloc_sound H ho hz
    · cases hq
  · rename_i t x ho
    split at hq
    · rename_i r hr
      cases hq
      exact box_sound H hρ ho hr
    · cases hq
  · rename_i t len parts ho
    split at hq
    · rename_i ps hps
      split at hq
      · rename_i e s pvs hb
        cases hq
        exact buildSlice_sound H hρ ho hps hb
      · cases hq
    · cases hq
  · rename_i t x y ho
    split at hq
    · rename_i i off r hx hy
      split at hq
      · rename_i bt cells hi
        split at hq
        · rename_i hc
          cases hq
          exact store_sound H hρ ho hx hy hi hc.1 hc.2.1 hc.2.2
        · cases hq
      · cases hq
    · cases hq
  · rename_i args ts ho
    split at hq
    · rename_i s x t t' hops hts
      split at hq
      · rename_i ht
        subst ht
        have hv := opsA_sound hρ _ _ hops
        obtain ⟨so, xo, ha⟩ : ∃ so xo, args.toList = [so, xo] := by
          have := hv.1
          match hargs : args.toList with
          | [] => rw [hargs] at this; simp at this
          | [_] => rw [hargs] at this; simp at this
          | [a, b] => exact ⟨a, b, rfl⟩
          | _ :: _ :: _ :: _ => rw [hargs] at this; simp at this
        rw [ha] at hv
        have hs := hv.2 0 (by simp) (by simp)
        have hx := hv.2 1 (by simp) (by simp)
        simp only [List.getElem_cons_zero, List.getElem_cons_succ, List.map_cons, List.map_nil] at hs hx
        split at hq
        · rename_i es' hes
          exact append_sound H ha hts ho hs (.inl (rowsOf_sound hx hes)) hq
        · split at hq
          · rename_i hn
            exact append_sound H ha hts ho hs (.inr ⟨rfl, isNil_sound hx hn⟩) hq
          · cases hq
      · cases hq
    · cases hq
  · cases hq
end

mutual
/-- An abstract value under other names of the objects. -/
def ren (f : Nat → Option Nat) : AV → Option AV
  | .pv p => some (.pv p)
  | .trows t es => (f t).map fun t' => .trows t' es
  | .tsym t i => (f t).map fun t' => .tsym t' i
  | .ptr i o => (f i).map fun i' => .ptr i' o
  | .cptr cs => some (.cptr cs)
  | .agg l => (renL f l).map .agg
  | .tup l => (renL f l).map .tup
  | .fn g l => (renL f l).map (.fn g)
  | .sl t lo len sz => (f t).map fun t' => .sl t' lo len sz
  | .mp t => (f t).map .mp
  | .ifc t v => (ren f v).map (.ifc t)
def renL (f : Nat → Option Nat) : List AV → Option (List AV)
  | [] => some []
  | a :: l => match ren f a, renL f l with
    | some b, some r => some (b :: r)
    | _, _ => none
end
theorem renL_len {f : Nat → Option Nat} : ∀ {l l' : List AV}, renL f l = some l' → l'.length = l.length
  | [], l', h => by rw [renL] at h; cases h; rfl
  | a :: l, l', h => by
    rw [renL] at h
    split at h
    · rename_i b r _ hr
      cases h
      simp [renL_len hr]
    · cases h
theorem renL_at {f : Nat → Option Nat} : ∀ {l l' : List AV}, renL f l = some l' → ∀ i (h : i < l.length) (h' : i < l'.length), ren f l[i] = some l'[i]
  | [], l', h, i, hi, _ => by simp at hi
  | a :: l, l', h, i, hi, hi' => by
    rw [renL] at h
    split at h
    · rename_i b r hb hr
      cases h
      cases i with
      | zero => exact hb
      | succ i => exact renL_at hr i (by simpa using hi) (by simpa using hi')
    · cases h
/-- The same cells, tokens the same; the names go by f. -/
structure Ren (f : Nat → Option Nat) (K K' : Kn) : Prop where
  M : K'.M = K.M
  Z : K'.Z = K.Z
  E : K'.E = K.E
  R : K'.R = K.R
  mu : ∀ i j g, f i = some j → K.mu i = some g → K'.mu j = some g
theorem ren_sound {f : Nat → Option Nat} {K K' : Kn} (R : Ren f K K') {a : AV} {v : Value} (h : VR K a v) : ∀ {b : AV}, ren f a = some b → VR K' b v := by
  induction h with
  | pv h => intro b hb; rw [ren] at hb; cases hb; exact .pv (by rw [R.M, R.R]; exact h)
  | trows t es g us hm hn hsz hc hr =>
    intro b hb
    rw [ren] at hb
    obtain ⟨t', ht', e⟩ := map_some' hb
    subst e
    have key := VR.trows (K := K') t' es g us (R.mu t t' g ht' hm) (by rw [R.Z]; exact hn) (by rw [R.E]; exact hsz) (by rw [R.E, R.M]; exact hc) (by rw [R.M, R.R]; exact hr)
    rw [R.Z] at key
    exact key
  | tsym t i es hi _ ih =>
    intro b hb
    rw [ren] at hb
    obtain ⟨t', ht', e⟩ := map_some' hb
    subst e
    exact .tsym t' i es (by rw [R.R]; exact hi) (ih (by rw [ren, ht']; rfl))
  | ptr i o g hm =>
    intro b hb
    rw [ren] at hb
    obtain ⟨t', ht', e⟩ := map_some' hb
    subst e
    exact .ptr t' o g (R.mu i t' g ht' hm)
  | cptr cs g o us hc hr => intro b hb; rw [ren] at hb; cases hb; exact .cptr cs g o us (by rw [R.M]; exact hc) (by rw [R.M, R.R]; exact hr)
  | agg l cs hl _ ih =>
    intro b hb
    rw [ren] at hb
    obtain ⟨l', hl', e⟩ := map_some' hb
    subst e
    have h1 := renL_len hl'
    exact .agg l' cs (by omega) (fun i hi hi' => ih i (by omega) hi' (renL_at hl' i (by omega) hi))
  | tup l cs hl _ ih =>
    intro b hb
    rw [ren] at hb
    obtain ⟨l', hl', e⟩ := map_some' hb
    subst e
    have h1 := renL_len hl'
    exact .tup l' cs (by omega) (fun i hi hi' => ih i (by omega) hi' (renL_at hl' i (by omega) hi))
  | fn g l cs hl _ ih =>
    intro b hb
    rw [ren] at hb
    obtain ⟨l', hl', e⟩ := map_some' hb
    subst e
    have h1 := renL_len hl'
    exact .fn g l' cs (by omega) (fun i hi hi' => ih i (by omega) hi' (renL_at hl' i (by omega) hi))
  | sl t lo len sz g cap off hm he hl hz hof =>
    intro b hb
    rw [ren] at hb
    obtain ⟨t', ht', e⟩ := map_some' hb
    subst e
    exact .sl t' lo len sz g cap off (R.mu t t' g ht' hm) (by rw [R.E]; exact he) hl (by rw [R.Z]; exact hz) hof
  | mp t g hm =>
    intro b hb
    rw [ren] at hb
    obtain ⟨t', ht', e⟩ := map_some' hb
    subst e
    exact .mp t' g (R.mu t t' g ht' hm)
  | ifc t _ ih =>
    intro b hb
    rw [ren] at hb
    obtain ⟨v', hv', e⟩ := map_some' hb
    subst e
    exact .ifc t (ih hv')
theorem renL_sound {f : Nat → Option Nat} {K K' : Kn} (R : Ren f K K') {l l' : List AV} {cs : List Value} (h : VL K l cs) (hl : renL f l = some l') : VL K' l' cs := by
  have h1 := renL_len hl
  exact ⟨by rw [h1]; exact h.1, fun i hi hi' => ren_sound R (h.2 i (by omega) hi') (renL_at hl i (by omega) hi)⟩
def renO (f : Nat → Option Nat) : AObj → Option AObj
  | .box ty cells => (renL f cells).map (.box ty)
  | .tok ty sz len => some (.tok ty sz len)
  | .dead => some .dead
  | .mp ks vs => (renL f vs).map (.mp ks)
def renH (f : Nat → Option Nat) : List AObj → Option (List AObj)
  | [] => some []
  | a :: l => match renO f a, renH f l with
    | some b, some r => some (b :: r)
    | _, _ => none
theorem renH_len {f : Nat → Option Nat} : ∀ {l l' : List AObj}, renH f l = some l' → l'.length = l.length
  | [], l', h => by rw [renH] at h; cases h; rfl
  | a :: l, l', h => by
    rw [renH] at h
    split at h
    · rename_i b r _ hr
      cases h
      simp [renH_len hr]
    · cases h
theorem renH_at {f : Nat → Option Nat} : ∀ {l l' : List AObj}, renH f l = some l' → ∀ (i : Nat) y, l'[i]? = some y → ∃ x, l[i]? = some x ∧ renO f x = some y
  | [], l', h, i, y, hy => by rw [renH] at h; cases h; simp at hy
  | a :: l, l', h, i, y, hy => by
    rw [renH] at h
    split at h
    · rename_i b r hb hr
      cases h
      cases i with
      | zero => simp at hy; subst hy; exact ⟨a, rfl, hb⟩
      | succ i => simpa using renH_at hr i y (by simpa using hy)
    · cases h
theorem renO_live {f : Nat → Option Nat} {x y : AObj} (h : renO f x = some y) : y.live = x.live := by
  cases x with
  | box ty c => rw [renO] at h; obtain ⟨l', _, e⟩ := map_some' h; subst e; rfl
  | tok => rw [renO] at h; cases h; rfl
  | dead => rw [renO] at h; cases h; rfl
  | mp ks vs => rw [renO] at h; obtain ⟨l', _, e⟩ := map_some' h; subst e; rfl
/-- The objects of some names. -/
def pickH (h : List AObj) : List Nat → Option (List AObj)
  | [] => some []
  | i :: l => match h[i]?, pickH h l with
    | some x, some r => some (x :: r)
    | _, _ => none
theorem pickH_len {h : List AObj} : ∀ {l : List Nat} {r : List AObj}, pickH h l = some r → r.length = l.length
  | [], r, hh => by cases hh; rfl
  | i :: l, r, hh => by
    rw [pickH] at hh
    split at hh
    · rename_i x r' _ hr
      cases hh
      simp [pickH_len hr]
    · cases hh
theorem pickH_at {h : List AObj} : ∀ {l : List Nat} {r : List AObj}, pickH h l = some r → ∀ (k : Nat) x, r[k]? = some x → ∃ i, l[k]? = some i ∧ h[i]? = some x
  | [], r, hh, k, x, hx => by cases hh; simp at hx
  | i :: l, r, hh, k, x, hx => by
    rw [pickH] at hh
    split at hh
    · rename_i y r' hy hr
      cases hh
      cases k with
      | zero => simp at hx; subst hx; exact ⟨i, rfl, hy⟩
      | succ k => simpa using pickH_at hr k x (by simpa using hx)
    · cases hh
end Go.Proofs.YtjpjcjnacnlhdaaGreat
