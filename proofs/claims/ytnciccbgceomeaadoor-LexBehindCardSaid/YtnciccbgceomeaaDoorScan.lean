/- What 'Scan' does: a source's tokens, or its first fault. -/
import Derived.Test.YtnciccbgceomeaaDoorSpoil
namespace Go.Proofs.YtnciccbgceomeaaDoor
open Go.RowKit

theorem putR_pos {kind n : Int} {x : ByteArray} {at_ k : Nat} {t : Tok} {j : Nat} (h : putR kind x n at_ k = .ok (t, j)) : j = k := by
  unfold putR at h
  split at h
  · cases h
  · cases h; rfl
theorem textL_len : ∀ (n : Nat) (l x r : List UInt8), l.length ≤ n → textL l = some (x, r) → r.length < l.length
  | 0, l, x, r, hn, h => by
    have : l = [] := List.eq_nil_of_length_eq_zero (by omega)
    subst this
    cases h
  | n + 1, [], x, r, hn, h => by cases h
  | n + 1, c :: l, x, r, hn, h => by
    rw [textL_cons] at h
    simp only [List.length_cons] at hn ⊢
    split at h
    · cases h; omega
    · split at h
      · cases h
      · split at h
        · cases l with
          | nil => cases h
          | cons d l' =>
            simp only at h
            split at h
            · cases h
            · cases h2 : textL l' with
              | none => rw [h2] at h; cases h
              | some p =>
                rw [h2] at h
                have := textL_len n l' p.1 p.2 (by simp only [List.length_cons] at hn; omega) h2
                cases h
                simp only [List.length_cons]
                omega
        · cases h2 : textL l with
          | none => rw [h2] at h; cases h
          | some p =>
            rw [h2] at h
            have := textL_len n l p.1 p.2 (by omega) h2
            cases h
            omega
theorem adv_gt {p : UInt8 → Bool} {s : ByteArray} {k : Nat} (h : k < s.size) (hp : p s[k] = true) : k < adv p s k := by
  unfold adv
  rw [drop_at s k h]
  simp [hp]
theorem oneR_bd {s : ByteArray} {k : Nat} (h : k < s.size) {t : Tok} {j : Nat} (h1 : oneR s k s[k] = .ok (t, j)) : k < j ∧ j ≤ s.size := by
  unfold oneR at h1
  split at h1
  · rename_i hc
    have := putR_pos h1
    subst this
    refine ⟨adv_gt h ?_, adv_le _ s k (by omega)⟩
    rcases hc with hc | hc <;> simp [insideB, hc]
  · split at h1
    · rename_i hd
      unfold numR numOf at h1
      split at h1
      · cases h1
      · have := putR_pos h1
        subst this
        exact ⟨adv_gt h hd, adv_le _ s k (by omega)⟩
    · split at h1
      · unfold textR textOfR at h1
        split at h1
        · cases h1
        · rename_i x r hx
          have := putR_pos h1
          subst this
          have h2 := textL_len _ _ _ _ (Nat.le_refl _) hx
          have hl : s.data.toList.length = s.size := rfl
          rw [List.length_drop] at h2
          omega
      · split at h1
        · rename_i hs
          have := putR_pos h1
          subst this
          exact ⟨adv_gt h hs, adv_le _ s k (by omega)⟩
        · split at h1
          · have := putR_pos h1
            subst this
            omega
          · cases h1
theorem skipPos_ge (s : ByteArray) (k : Nat) (h : k ≤ s.size) : k ≤ skipPos s k ∧ skipPos s k ≤ s.size := by
  unfold skipPos
  have h1 := skipC_length false (s.data.toList.drop k)
  have hl : s.data.toList.length = s.size := rfl
  rw [List.length_drop] at h1
  omega

def endTok (s : ByteArray) : Tok := ⟨0, ⟨#[]⟩, 0, s.size⟩
/-- The tokens from a place on, behind blanks. -/
def scanF (s : ByteArray) : Nat → Nat → List Tok → Except (Int × Nat) (List Tok)
  | 0, _, ts => .ok (ts ++ [endTok s])
  | f + 1, pos, ts =>
    if h : pos < s.size then
      match oneR s pos s[pos] with
      | .error c => .error (c, pos)
      | .ok (t, j) => scanF s f (skipPos s j) (ts ++ [t])
    else .ok (ts ++ [endTok s])
def scanP (s : ByteArray) : Except (Int × Nat) (List Tok) :=
  if 60000 < s.size then .error (3, 0)
  else if 0 ≤ spoilP s then .error (100, (spoilP s).toNat)
  else scanF s (s.size + 1) (skipPos s 0) []

theorem scanF_more (s : ByteArray) : ∀ (f pos : Nat) (ts : List Tok), s.size - pos < f → scanF s f pos ts = scanF s (s.size - pos + 1) pos ts
  | 0, pos, ts, h => by omega
  | f + 1, pos, ts, h => by
    by_cases hp : pos < s.size
    · simp only [scanF, hp, dif_pos]
      cases h1 : oneR s pos s[pos] with
      | error c => rfl
      | ok p =>
        obtain ⟨t, j⟩ := p
        have hb := oneR_bd hp h1
        have hk := skipPos_ge s j hb.2
        simp only
        rw [scanF_more s f _ _ (by omega), scanF_more s (s.size - pos) (skipPos s j) _ (by omega)]
    · simp [scanF, hp]

/-- What 'Scan' leaves. -/
def Scanned (w : World) (r : Except (Int × Nat) (List Tok)) (e : Ending) (w' : World) : Prop :=
  match r with
  | .ok ts => ∃ v, e = .returned (.tuple #[v, .agg #[.int .i64 0, .int .i64 0]]) ∧ w'.ownsRow w.heap.size 35 4 v ts.length (tokCells ts) ∧ Below w.heap.size w w'
  | .error (c, at_) => e = .returned (.tuple #[.slice none 0 0, .agg #[.int .i64 c, .int .i64 (at_ : Int)]]) ∧ Below w.heap.size w w'

theorem spoilF_ge (s : ByteArray) : ∀ f pos, -1 ≤ spoilF s f pos
  | 0, _ => by simp [spoilF]
  | f + 1, pos => by
    simp only [spoilF]
    split
    · split
      · omega
      · exact spoilF_ge s f _
    · omega

set_option maxHeartbeats 1000000 in
theorem scan_limit (s : ByteArray) (w : World) (h : 60000 < s.size) (hs : s.size ≤ maxLen) : Calls Tryd.prog 7 #[.string s] w (Scanned w (scanP s)) := by
  have HR : Hid (scanP s = .error (3, 0)) := by
    show scanP s = _
    unfold scanP; rw [if_pos h]
  unfold maxLen at hs
  go_enter Tryd.func7, Tryd.ntmps7
  go_wp2_with fail
  refine bodyPost_ret (v := .tuple #[.slice none 0 0, .agg #[.int .i64 3, .int .i64 0]]) (by simp [results, Tryd.results7, go_sem]) rfl ?_
  rw [HR.out]
  exact ⟨rfl, ((Below.refl _ _).alloc (Nat.le_refl _) _)⟩

end Go.Proofs.YtnciccbgceomeaaDoor
