/- Joined texts. -/
import Derived.Test.YtijcobeebaceoaaGreatDoorBv
import Derived.Test.YtijcobeebaceoaaGreatDoorBu
namespace Go.Proofs.YtijcobeebaceoaaGreatDoor
open Go.RowKit
set_option linter.unusedSimpArgs false
set_option linter.unusedVariables false
set_option linter.unusedSectionVars false

def TOk (k : Int) (x : List UInt8) : Prop := 1 ≤ k ∧ k ≤ 7 ∧ (k = 6 → Lx.keyList.contains x = true) ∧ (k = 7 → Lx.markList.contains x = true)
theorem mark_us : Lx.markList.contains [95] = true := by kernel_rfl
theorem kindL_ok (x : List UInt8) : TOk (Lx.kindL x) x := by
  unfold Lx.kindL
  split
  · rename_i h; exact ⟨by decide, by decide, fun _ => h, fun h => absurd h (by decide)⟩
  · split
    · rename_i h
      refine ⟨by decide, by decide, fun h => absurd h (by decide), fun _ => ?_⟩
      rw [eq_of_beq h]; exact mark_us
    · have key : ∀ q : Bool, TOk (if q = true then 2 else 1) x := fun q => by
        cases q
        · exact ⟨by decide, by decide, fun h => absurd h (by decide), fun h => absurd h (by decide)⟩
        · exact ⟨by decide, by decide, fun h => absurd h (by decide), fun h => absurd h (by decide)⟩
      exact key _
theorem oneL_kind {l : List UInt8} {k n : Int} {x r : List UInt8} (h : Lx.oneL l = .ok (k, x, n, r)) : TOk k x := by
  have hp : ∀ {k' : Int} {x' : List UInt8} {n' : Int} {r' : List UInt8}, TOk k' x' → Lx.putL k' x' n' r' = .ok (k, x, n, r) → TOk k x := by
    intro k' x' n' r' ht h
    obtain ⟨_, rfl, rfl, _⟩ := Lx.putL_rest h
    exact ht
  unfold Lx.oneL at h
  split at h
  · cases h
  · split at h
    · exact hp (kindL_ok _) h
    · split at h
      · split at h
        · cases h
        · exact hp ⟨by decide, by decide, fun h => absurd h (by decide), fun h => absurd h (by decide)⟩ h
      · split at h
        · split at h
          · cases h
          · exact hp ⟨by decide, by decide, fun h => absurd h (by decide), fun h => absurd h (by decide)⟩ h
        · split at h
          · refine hp ?_ h
            split
            · rename_i hm; exact ⟨by decide, by decide, fun h => absurd h (by decide), fun _ => hm⟩
            · exact ⟨by decide, by decide, fun h => absurd h (by decide), fun h => absurd h (by decide)⟩
          · split at h
            · rename_i hm
              exact hp ⟨by decide, by decide, fun h => absurd h (by decide), fun _ => hm⟩ h
            · cases h
theorem scanL_ok : ∀ (f : Nat) (l : List UInt8) (ts : List Lx.LTok), Lx.scanL f l = .ok ts → ∃ ts', ts = ts' ++ [(0, [], 0, 0)] ∧ ∀ t ∈ ts', TOk t.1 t.2.1
  | 0, l, ts, h => by cases h; exact ⟨[], rfl, fun t ht => by cases ht⟩
  | f + 1, [], ts, h => by cases h; exact ⟨[], rfl, fun t ht => by cases ht⟩
  | f + 1, c :: l, ts, h => by
    simp only [Lx.scanL] at h
    cases h1 : Lx.oneL (c :: l) with
    | error e => rw [h1] at h; cases h
    | ok p =>
      obtain ⟨k, x, n, r⟩ := p
      rw [h1] at h
      simp only at h
      cases h2 : Lx.scanL f (Lx.skipC false r) with
      | error e => rw [h2] at h; cases h
      | ok ts' =>
        rw [h2] at h
        cases h
        obtain ⟨t2, e1, e2⟩ := scanL_ok f _ _ h2
        refine ⟨(k, x, n, (c :: l).length) :: t2, by rw [e1]; rfl, fun t ht => ?_⟩
        rcases List.mem_cons.1 ht with rfl | ht
        · exact oneL_kind h1
        · exact e2 t ht
theorem scanL_bad : ∀ (f : Nat) (l : List UInt8) (e : Int) (k : Nat), Lx.scanL f l = .error (e, k) → e ≠ 0
  | 0, l, e, k, h => by cases h
  | f + 1, [], e, k, h => by cases h
  | f + 1, c :: l, e, k, h => by
    simp only [Lx.scanL] at h
    cases h1 : Lx.oneL (c :: l) with
    | error e => rw [h1] at h; cases h; exact oneL_err h1
    | ok p =>
      obtain ⟨k, x, n, r⟩ := p
      rw [h1] at h
      simp only at h
      cases h2 : Lx.scanL f (Lx.skipC false r) with
      | error e => rw [h2] at h; cases h; exact scanL_bad f _ _ _ h2
      | ok ts' => rw [h2] at h; cases h
theorem key_no : Lx.keyList.contains [40] = false ∧ Lx.keyList.contains [95] = false ∧ Lx.markList.contains [99, 97, 115, 101] = false := ⟨by kernel_rfl, by kernel_rfl, by kernel_rfl⟩
theorem textOf_inj {x : List UInt8} {a : Array UInt8} (h : Lx.textOf x = ⟨a⟩) : x = a.toList := by
  have := congrArg (fun b : ByteArray => b.data.toList) h
  exact this
theorem wfL_of (b : ByteArray) (ts : List Lx.LTok) (hk : ∀ t ∈ ts, TOk t.1 t.2.1) (hl : ts.length ≤ 60000) : WfL ((ts ++ [(0, [], 0, 0)]).map (mkT b)) := by
  have hin : ∀ a (h : a < ts.length), tkAt ((ts ++ [(0, [], 0, 0)]).map (mkT b)) a = mkT b ts[a] := fun a h => by
    unfold tkAt
    rw [List.getElem?_map, List.getElem?_append_left h, List.getElem?_eq_getElem h]; rfl
  have hout : ∀ a, ts.length ≤ a → (tkAt ((ts ++ [(0, [], 0, 0)]).map (mkT b)) a).kind = 0 := fun a h => by
    unfold tkAt
    rw [List.getElem?_map, List.getElem?_append_right h]
    cases hd : a - ts.length with
    | zero => rfl
    | succ n => rfl
  have hc : ∀ a, (∃ t, TOk t.1 t.2.1 ∧ tkAt ((ts ++ [(0, [], 0, 0)]).map (mkT b)) a = mkT b t) ∨ (tkAt ((ts ++ [(0, [], 0, 0)]).map (mkT b)) a).kind = 0 := fun a => by
    by_cases h : a < ts.length
    · exact .inl ⟨ts[a], hk _ (List.getElem_mem h), hin a h⟩
    · exact .inr (hout a (by omega))
  have hkd : ∀ t : Lx.LTok, (mkT b t).kind = t.1 := fun t => rfl
  have htx : ∀ t : Lx.LTok, (mkT b t).text = Lx.textOf t.2.1 := fun t => rfl
  refine ⟨by simp; omega, by simp, fun a h => ?_, fun a => ?_, fun a h => ?_, fun a h => ?_⟩
  · have : a < ts.length := by
      apply Decidable.byContradiction
      intro hn
      exact h (hout a (by omega))
    simp; omega
  · rcases hc a with ⟨t, ht, e⟩ | e
    · rw [e, hkd]; exact ht.2.1
    · rw [e]; decide
  · rcases hc a with ⟨t, ht, e⟩ | e
    · rw [e, hkd] at h
      have hx := ht.2.2.1 h
      rw [e, htx]
      refine ⟨fun he => ?_, fun he => ?_⟩
      · rw [textOf_inj he] at hx
        exact absurd (hx.symm.trans key_no.1) (by decide)
      · rw [textOf_inj he] at hx
        exact absurd (hx.symm.trans key_no.2.1) (by decide)
    · rw [e] at h; exact absurd h (by decide)
  · rcases hc a with ⟨t, ht, e⟩ | e
    · rw [e, hkd] at h
      have hx := ht.2.2.2 h
      rw [e, htx]
      intro he
      rw [textOf_inj he] at hx
      exact absurd (hx.symm.trans key_no.2.2) (by decide)
    · rw [e] at h; exact absurd h (by decide)
theorem scanT_ok {b : ByteArray} {L : List Tk} (h : scanT b = .ok L) : b.size ≤ 60000 ∧ L.length ≤ 60001 ∧ WfL L := by
  have hb : b.size ≤ 60000 := by
    apply Decidable.byContradiction
    intro hn
    unfold scanT Lx.scanP at h
    rw [if_pos (by omega)] at h
    cases h
  rw [scanT_form b hb] at h
  split at h
  · cases h
  · split at h
    · cases h
    · rename_i ts hs
      cases h
      have hl := scanL_len _ _ _ hs
      rw [D_len] at hl
      obtain ⟨t2, rfl, hk⟩ := scanL_ok _ _ _ hs
      simp at hl
      exact ⟨hb, by simp; omega, wfL_of b t2 hk (by omega)⟩
theorem scanT_bad {b : ByteArray} {e : Int} {w : Nat} (h : scanT b = .error (e, w)) : e ≠ 0 := by
  by_cases hb : b.size ≤ 60000
  · rw [scanT_form b hb] at h
    split at h
    · cases h; decide
    · split at h
      · rename_i hs; cases h; exact scanL_bad _ _ _ _ hs
      · cases h
  · unfold scanT Lx.scanP at h
    rw [if_pos (by omega)] at h
    cases h
    decide
end Go.Proofs.YtijcobeebaceoaaGreatDoor
namespace Go.Proofs.YtijcobeebaceoaaGreatDoor
open Go.RowKit
set_option linter.unusedSimpArgs false
set_option linter.unusedVariables false
set_option linter.unusedSectionVars false

theorem take0 {L : List Tk} (hL : L.length ≤ 1000000) {s : St} (ha : s.e = 0 → s.a ≤ L.length) : ev (q24a (iv 0) (sv eB) (tks L) (iv s.a) (iv s.lv) (iv s.e) (iv s.w)) = some (0,
    if s.e = 0 then (if (tkAt L s.a).kind = 0 then sts L s.up (tkAt L s.a).cells else sts L ⟨s.a, s.lv, 110, (tkAt L s.a).at_⟩ zT.cells) else sts L s zT.cells) := Evl.of (by
  rw [h24a, g24a]
  obtain ⟨a, lv, e, w⟩ := s
  simp only at ha ⊢
  by_cases he : e = 0
  · subst he
    have ha := ha rfl
    have hw : IntKind.i64.wrap ((a : Int) + 1) = (a : Int) + 1 := wrap_id (by omega)
    by_cases hk : (tkAt L a).kind = 0
    · simp [next_m, Tk.cells, nextT_z, hk, hw, St.up]
    · simp [next_m, Tk.cells, nextT_z, hk, fail_m, failS, zT]
  · simp [next_m, Tk.cells, nextT_e, he, zT])
/-- What a text of a type means. -/
def typS (b : ByteArray) : Rz Ty := match scanT b with
  | .error (c, p) => .err c p
  | .ok L => endF L (typeF L (2 * L.length + 2) 0 0)
def RO8 (b : ByteArray) (r : Rz Ty) : Prop := match r with
  | .out => False
  | .ok v _ => ev (q8 (sv b)) = some (0, tyC v ++ [iv 0, iv 0]) ∧ v.Ok
  | .err e w => e ≠ 0 ∧ ev (q8 (sv b)) = some (0, [iv 0, sv eB, iv 0, nS, iv e, iv w])
theorem begin_x (b : ByteArray) : ev (q22 (sv b)) = some (0, match scanT b with
    | .ok L => sts L ⟨0, 0, 0, 0⟩ []
    | .error (c, p) => sts [] ⟨0, 0, c, p⟩ []) := Evl.of (by
  have hs := scan_x b
  rw [h22, g22]
  cases ht : scanT b with
  | ok L => rw [ht] at hs; simp [hs]
  | error p =>
    obtain ⟨c, p⟩ := p
    rw [ht] at hs
    have hc := scanT_bad ht
    have hf := fail_m (L := []) c p 0 0 0 0
    simp only [Int.natCast_zero] at hf
    simp [hs, hc, hf, failS])
theorem type_x (b : ByteArray) : RO8 b (typS b) := by
  have hs := begin_x b
  unfold typS
  cases ht : scanT b with
  | error p =>
    obtain ⟨c, p⟩ := p
    rw [ht] at hs
    have hc := scanT_bad ht
    have hty : ev (q23aw (tks []) (iv 0) (iv 0) (iv c) (iv p)) = some (0, [tks [], iv 0, iv 0, iv c, iv p, iv 0, sv eB, iv 0, tys []]) := type_e (L := []) (s := ⟨0, 0, c, p⟩) hc
    have htk : ev (q24a (iv 0) (sv eB) (tks []) (iv 0) (iv 0) (iv c) (iv p)) = some (0, [tks [], iv 0, iv 0, iv c, iv p, iv 0, sv eB, iv 0, iv 0]) := (take0 (L := []) (s := ⟨0, 0, c, p⟩) (by decide) (fun h0 => absurd h0 hc)).trans (by rw [if_neg hc]; rfl)
    refine ⟨hc, Evl.of ?_⟩
    rw [h8, g8]
    simp [hs, hty, htk, hc, Tk.cells, zT]
  | ok L =>
    rw [ht] at hs
    obtain ⟨hb, hl, hW⟩ := scanT_ok ht
    have hR := (ref_all (L := L) (by omega) (2 * L.length + 2) (by omega)).ty ⟨0, 0, 0, 0⟩ rfl (by decide) (by decide) (Nat.zero_le _)
    have hno := (types_no L (2 * L.length + 2) (by omega)).1 0 0 (by omega)
    have hgo := (types_go L (2 * L.length + 2) (by omega)).1 0 0
    simp only at hR ⊢
    cases hr : typeF L (2 * L.length + 2) 0 0 with
    | out => exact absurd hr hno
    | err e w =>
      rw [hr] at hR
      obtain ⟨he, s', v, e1, e2, e3⟩ := hR
      have e3 : ev (q23aw (tks L) (iv 0) (iv 0) (iv 0) (iv 0)) = _ := e3
      subst e1
      subst e2
      refine ⟨he, Evl.of ?_⟩
      have htk := take0 (L := L) (by omega) (s := s') (fun h0 => absurd h0 he)
      rw [h8, g8]
      simp [hs, e3, htk, he, Tk.cells, zT]
    | ok v a =>
      rw [hr] at hR
      obtain ⟨s', hF, e3, hle⟩ := hR
      have e3 : ev (q23aw (tks L) (iv 0) (iv 0) (iv 0) (iv 0)) = _ := e3
      have hok := (hgo _ _ hr).2
      have he := hF.e
      have haa := hF.a
      subst haa
      have htk := take0 (L := L) (by omega) (s := s') (fun _ => by omega)
      rw [if_pos he] at htk
      unfold endF
      rw [Rz.bind_ok]
      by_cases hk : (tkAt L s'.a).kind = 0
      · rw [if_pos hk] at htk ⊢
        have h4 : s'.up.e = 0 := by rw [up_e]; exact he
        refine ⟨Evl.of ?_, hok⟩
        rw [h8, g8]
        simp [hs, e3, htk, h4, Tk.cells]
      · rw [if_neg hk] at htk ⊢
        refine ⟨by decide, Evl.of ?_⟩
        rw [h8, g8]
        simp [hs, e3, htk, Tk.cells, zT]
end Go.Proofs.YtijcobeebaceoaaGreatDoor
