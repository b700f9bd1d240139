/- Joined texts. -/
import Derived.Test.YtnepapfndihalaaBa
import Derived.Laws.MakeOwn
import Derived.MapKept
import Derived.Lib.SliceRun
set_option linter.unusedVariables false
set_option linter.unusedSimpArgs false
set_option linter.unusedSectionVars false
namespace Go.Proofs.Ytnepapfndihalaa
open Go.RowKit

def posOf (i : Nat) : List Nat → Option Nat
  | [] => none
  | x :: l => if x = i then some 0 else (posOf i l).map (· + 1)
theorem posOf_some {i : Nat} : ∀ {l : List Nat} {j : Nat}, posOf i l = some j → l[j]? = some i
  | [], j, h => by cases h
  | x :: l, j, h => by
    rw [posOf] at h
    split at h
    · rename_i e; cases h; subst e; rfl
    · obtain ⟨k, hk, e⟩ := map_some' h
      subst e
      simpa using posOf_some hk
def nodupB : List Nat → Bool
  | [] => true
  | x :: l => !(l.elem x) && nodupB l
theorem nodupB_inj : ∀ {l : List Nat}, nodupB l = true → ∀ {i j x : Nat}, l[i]? = some x → l[j]? = some x → i = j
  | [], _, i, j, x, h, _ => by simp at h
  | y :: l, h, i, j, x, hi, hj => by
    rw [nodupB, Bool.and_eq_true] at h
    have hn : ∀ k : Nat, l[k]? = some y → False := by
      intro k hk
      have := List.mem_of_getElem? hk
      simp [this] at h
    cases i with
    | zero =>
      cases j with
      | zero => rfl
      | succ j => simp at hi hj; subst hi; exact (hn j hj).elim
    | succ i =>
      cases j with
      | zero => simp at hi hj; subst hj; exact (hn i hi).elim
      | succ j => simp at hi hj; rw [nodupB_inj h.2 hi hj]
/-- What is known, by the names of a part. -/
def Kn.sub (K : Kn) (ids : List Nat) : Kn := { K with mu := fun k => (ids[k]?).bind K.mu, N := fun k => match ids[k]? with
  | some i => K.N i
  | none => 0 }
theorem N_sub {K : Kn} {ids : List Nat} {k i : Nat} (h : ids[k]? = some i) : (K.sub ids).N k = K.N i := by
  show (match ids[k]? with | some i => K.N i | none => 0) = K.N i
  rw [h]
theorem sub_mu {K : Kn} {ids : List Nat} {k g : Nat} (h : (K.sub ids).mu k = some g) : ∃ i, ids[k]? = some i ∧ K.mu i = some g := by
  change (ids[k]?).bind K.mu = some g at h
  cases hi : ids[k]? with
  | none => rw [hi] at h; cases h
  | some i => rw [hi] at h; exact ⟨i, rfl, h⟩
theorem mu_sub {K : Kn} {ids : List Nat} {k i : Nat} (h : ids[k]? = some i) : (K.sub ids).mu k = K.mu i := by
  show (ids[k]?).bind K.mu = K.mu i
  rw [h]; rfl
theorem Ren.sub (K : Kn) (ids : List Nat) : Ren (fun i => posOf i ids) K (K.sub ids) :=
  ⟨rfl, rfl, rfl, rfl, fun i j g hf hm => by rw [mu_sub (posOf_some hf)]; exact hm, fun i j g hf _ => N_sub (posOf_some hf)⟩
/-- The part of the heap with these names. -/
def subH (h : List AObj) (ids : List Nat) : Option (List AObj) := match pickH h ids with
  | some r => renH (fun i => posOf i ids) r
  | none => none
theorem subH_spec {h : List AObj} {ids : List Nat} {hs : List AObj} (hh : subH h ids = some hs) : hs.length = ids.length ∧ ∀ (k : Nat) y, hs[k]? = some y → ∃ i x, ids[k]? = some i ∧ h[i]? = some x ∧ renO (fun i => posOf i ids) x = some y := by
  unfold subH at hh
  split at hh
  · rename_i r hr
    refine ⟨by rw [renH_len hh, pickH_len hr], fun k y hy => ?_⟩
    obtain ⟨x, hx, hxy⟩ := renH_at hh k y hy
    obtain ⟨i, hi, hix⟩ := pickH_at hr k x hx
    exact ⟨i, x, hi, hix, hxy⟩
  · cases hh
theorem subH_all {h : List AObj} {ids : List Nat} {hs : List AObj} (hh : subH h ids = some hs) {k i : Nat} (hk : ids[k]? = some i) : i < h.length := by
  obtain ⟨hl, hs'⟩ := subH_spec hh
  have hlt : k < hs.length := by
    rw [hl]
    by_cases hlt : k < ids.length
    · exact hlt
    · rw [List.getElem?_eq_none (by omega)] at hk; cases hk
  obtain ⟨i', x, hi, hx, _⟩ := hs' k hs[k] (List.getElem?_eq_getElem hlt)
  rw [hk] at hi
  cases hi
  by_cases hlt : i < h.length
  · exact hlt
  · rw [List.getElem?_eq_none (by omega)] at hx; cases hx
theorem WR.sub {K : Kn} {h : List AObj} {w : World} (H : WR K h w) {ids : List Nat} {hs : List AObj} (hn : nodupB ids = true) (hh : subH h ids = some hs) : WR (K.sub ids) hs w := by
  obtain ⟨hl, hsp⟩ := subH_spec hh
  have R := Ren.sub K ids
  refine ⟨fun k hk => ?_, fun k hk => ?_, fun k g hk => ?_, fun k ty cells hk => ?_, fun k ks vs hk => ?_, fun k ty sz len hk => ?_, fun a b x y g ha hb hlx hly hma hmb => ?_, fun k ty cells g hk hm o => ?_, H.agr, fun k ty sz p hk => ?_⟩
  · show (ids[k]?).bind K.mu = none
    rw [List.getElem?_eq_none (by omega)]; rfl
  · have hk' : k < ids.length := by omega
    have e := List.getElem?_eq_getElem hk'
    obtain ⟨g, hg⟩ := H.has _ (subH_all hh e)
    exact ⟨g, by rw [mu_sub e]; exact hg⟩
  · obtain ⟨i, _, hm⟩ := sub_mu hk
    exact H.lt i g hm
  · obtain ⟨i, x, hi, hx, hxy⟩ := hsp k _ hk
    cases x with
    | box ty' c =>
      rw [renO] at hxy
      obtain ⟨l', hl', e⟩ := map_some' hxy
      cases e
      obtain ⟨g, cs, hm, hw, hs, hv⟩ := H.box i ty c hx
      exact ⟨g, cs, by rw [mu_sub hi]; exact hm, hw, hs, renL_sound R (by rw [renL_len hl']; exact hv) hl'⟩
    | tok => rw [renO] at hxy; cases hxy
    | dead => rw [renO] at hxy; cases hxy
    | mp => rw [renO] at hxy; obtain ⟨l', hl', e⟩ := map_some' hxy; cases e
    | arr => rw [renO] at hxy; cases hxy
  · obtain ⟨i, x, hi, hx, hxy⟩ := hsp k _ hk
    cases x with
    | mp ks' vs' =>
      rw [renO] at hxy
      obtain ⟨l', hl', e⟩ := map_some' hxy
      cases e
      obtain ⟨g, ents, clock, hm, hw, hv⟩ := H.map i ks vs' hx
      exact ⟨g, ents, clock, by rw [mu_sub hi]; exact hm, hw, hv.ren R hl'⟩
    | box ty' c => rw [renO] at hxy; obtain ⟨l', hl', e⟩ := map_some' hxy; cases e
    | tok => rw [renO] at hxy; cases hxy
    | dead => rw [renO] at hxy; cases hxy
    | arr => rw [renO] at hxy; cases hxy
  · obtain ⟨i, x, hi, hx, hxy⟩ := hsp k _ hk
    cases x with
    | box ty' c => rw [renO] at hxy; obtain ⟨l', hl', e⟩ := map_some' hxy; cases e
    | tok ty' sz' len' =>
      rw [renO] at hxy
      cases hxy
      obtain ⟨g, cs, hm, rest⟩ := H.tok i ty sz len hx
      exact ⟨g, cs, by rw [mu_sub hi]; exact hm, rest⟩
    | dead => rw [renO] at hxy; cases hxy
    | mp => rw [renO] at hxy; obtain ⟨l', hl', e⟩ := map_some' hxy; cases e
    | arr => rw [renO] at hxy; cases hxy
  · obtain ⟨i, x', hi, hx, hxy⟩ := hsp a _ ha
    obtain ⟨j, y', hj, hy, hyy⟩ := hsp b _ hb
    rw [mu_sub hi] at hma
    rw [mu_sub hj] at hmb
    have := H.inj i j x' y' g hx hy (by rw [← renO_live hxy]; exact hlx) (by rw [← renO_live hyy]; exact hly) hma hmb
    subst this
    exact nodupB_inj hn hi hj
  · obtain ⟨i, x, hi, hx, hxy⟩ := hsp k _ hk
    rw [mu_sub hi] at hm
    cases x with
    | box ty' c => exact H.apart i ty' c g hx hm o
    | tok => rw [renO] at hxy; cases hxy
    | dead => rw [renO] at hxy; cases hxy
    | mp => rw [renO] at hxy; obtain ⟨l', hl', e⟩ := map_some' hxy; cases e
    | arr => rw [renO] at hxy; cases hxy
  · obtain ⟨i, x, hi, hx, hxy⟩ := hsp k _ hk
    cases x with
    | box ty' c => rw [renO] at hxy; obtain ⟨l', hl', e⟩ := map_some' hxy; cases e
    | tok => rw [renO] at hxy; cases hxy
    | dead => rw [renO] at hxy; cases hxy
    | mp => rw [renO] at hxy; obtain ⟨l', hl', e⟩ := map_some' hxy; cases e
    | arr ty' sz' p' =>
      rw [renO] at hxy
      cases hxy
      obtain ⟨g, cs, hm, hw, hs, ha⟩ := H.arr i ty sz p hx
      exact ⟨g, cs, by rw [mu_sub hi]; exact hm, hw, hs, ha.go ha.none rfl (N_sub hi) rfl rfl (fun _ _ _ h => h)⟩
theorem liveB_sub {K : Kn} {h : List AObj} {ids : List Nat} {hs : List AObj} (hh : subH h ids = some hs) {b : Nat} (hb : (K.sub ids).liveB hs b) : ∃ (k i : Nat) (x : AObj), ids[k]? = some i ∧ h[i]? = some x ∧ x.live = true ∧ K.mu i = some b := by
  obtain ⟨k, y, hk, hl, hm⟩ := hb
  obtain ⟨i, x, hi, hx, hxy⟩ := (subH_spec hh).2 k y hk
  exact ⟨k, i, x, hi, hx, by rw [← renO_live hxy]; exact hl, by rw [mu_sub hi] at hm; exact hm⟩
/-- What is left of a heap at the end: the first objects, as they were, and some others. -/
theorem Step.sub {K K' : Kn} {h h' : List AObj} {w w' : World} (H : WR K h w) (S : Step K h w K' h' w') {ids : List Nat} {hs : List AObj} (hn : nodupB ids = true) (hh : subH h' ids = some hs)
    (hpre : ∀ k, k < h.length → ids[k]? = some k) : Step K h w (K'.sub ids) hs w' := by
  have hlen : h.length ≤ ids.length := by
    cases hl : h.length with
    | zero => omega
    | succ n =>
      have := hpre n (by omega)
      by_cases hlt : n < ids.length
      · omega
      · rw [List.getElem?_eq_none (by omega)] at this; cases this
  have hsl := (subH_spec hh).1
  have hdef : ∀ i g, K.mu i = some g → i < h.length := by
    intro i g hi
    by_cases hlt : i < h.length
    · exact hlt
    · rw [H.fresh i (by omega)] at hi; cases hi
  refine ⟨S.wr.sub hn hh, ⟨S.ext.M, fun i g hi => ?_, S.ext.Z, S.ext.E, S.ext.R, fun i g hi => by rw [N_sub (hpre i (hdef i g hi))]; exact S.ext.N i g hi⟩, S.frm, S.zs, S.ms, fun k b hk => ?_, fun b hb hlt => ?_, by omega⟩
  · rw [mu_sub (hpre i (hdef i g hi))]; exact S.ext.mu i g hi
  · obtain ⟨i, hi, hm⟩ := sub_mu hk
    rcases S.mu i b hm with h1 | h1
    · have := nodupB_inj hn hi (hpre i (hdef i b h1))
      subst this
      exact .inl h1
    · exact .inr h1
  · obtain ⟨k, i, x, hi, hx, hl, hm⟩ := liveB_sub hh hb
    exact S.live b ⟨i, x, hx, hl, hm⟩ hlt

/-- The objects of a part, laid back. -/
def overlay (h : List AObj) : List Nat → List AObj → List AObj
  | i :: ids, x :: l => overlay (h.set i x) ids l
  | _, _ => h
theorem overlay_len : ∀ (ids : List Nat) (l : List AObj) (h : List AObj), (overlay h ids l).length = h.length
  | [], l, h => by simp [overlay]
  | i :: ids, [], h => by simp [overlay]
  | i :: ids, x :: l, h => by rw [overlay, overlay_len ids l]; simp
theorem overlay_at : ∀ (ids : List Nat) (l : List AObj) (h : List AObj), nodupB ids = true → ids.length ≤ l.length → ∀ (i : Nat) y, (overlay h ids l)[i]? = some y →
    (∃ k : Nat, ids[k]? = some i ∧ l[k]? = some y) ∨ ((∀ k : Nat, ids[k]? ≠ some i) ∧ h[i]? = some y)
  | [], l, h, _, _, i, y, hy => by
    have e : overlay h [] l = h := by simp [overlay]
    rw [e] at hy
    exact .inr ⟨fun k => by simp, hy⟩
  | j :: ids, [], h, _, hl, i, y, hy => by simp at hl
  | j :: ids, x :: l, h, hn, hl, i, y, hy => by
    rw [overlay] at hy
    have hn2 := hn
    rw [nodupB, Bool.and_eq_true] at hn2
    rcases overlay_at ids l (h.set j x) hn2.2 (by simpa using hl) i y hy with ⟨k, h1, h2⟩ | ⟨h1, h2⟩
    · exact .inl ⟨k + 1, by simpa using h1, by simpa using h2⟩
    · rw [List.getElem?_set] at h2
      by_cases e : j = i
      · subst e
        rw [if_pos rfl] at h2
        split at h2
        · cases h2; exact .inl ⟨0, rfl, rfl⟩
        · cases h2
      · rw [if_neg e] at h2
        refine .inr ⟨fun k => ?_, h2⟩
        cases k with
        | zero => simpa using e
        | succ k => simpa using h1 k
def backF (ids : List Nat) (n : Nat) (k : Nat) : Option Nat := match ids[k]? with
  | some i => some i
  | none => some (n + (k - ids.length))
def Kn.merge (K Ks : Kn) (ids : List Nat) (n : Nat) : Kn := { Ks with mu := fun i => if i < n then K.mu i else Ks.mu (ids.length + (i - n)), N := fun i => if i < n then K.N i else Ks.N (ids.length + (i - n)) }
/-- The heap behind a call. -/
def mergeH (h : List AObj) (ids : List Nat) (hs' : List AObj) : Option (List AObj) := match renH (backF ids h.length) hs' with
  | some hb => some (overlay h ids hb ++ hb.drop ids.length)
  | none => none
theorem merge_sound {K Ks : Kn} {h hs hs' h' : List AObj} {w w' : World} {ids : List Nat} (H : WR K h w) (hn : nodupB ids = true) (hh : subH h ids = some hs) (S : Step (K.sub ids) hs w Ks hs' w') (hm : mergeH h ids hs' = some h') :
    Step K h w (K.merge Ks ids h.length) h' w' ∧ Ren (backF ids h.length) Ks (K.merge Ks ids h.length) ∧ Frm (K.at h ids) w w' := by
  unfold mergeH at hm
  split at hm
  · rename_i hb hrb
    cases hm
    have hsl := (subH_spec hh).1
    have hbl := renH_len hrb
    have hle := S.len
    have hmu1 : ∀ i, i < h.length → (K.merge Ks ids h.length).mu i = K.mu i := fun i hi => by show (if i < h.length then _ else _) = _; rw [if_pos hi]
    have hmu2 : ∀ i, h.length ≤ i → (K.merge Ks ids h.length).mu i = Ks.mu (ids.length + (i - h.length)) := fun i hi => by show (if i < h.length then _ else _) = _; rw [if_neg (by omega)]
    have hN1 : ∀ i, i < h.length → (K.merge Ks ids h.length).N i = K.N i := fun i hi => by show (if i < h.length then _ else _) = _; rw [if_pos hi]
    have hN2 : ∀ i, h.length ≤ i → (K.merge Ks ids h.length).N i = Ks.N (ids.length + (i - h.length)) := fun i hi => by show (if i < h.length then _ else _) = _; rw [if_neg (by omega)]
    have hold : ∀ k i, ids[k]? = some i → ∃ g, K.mu i = some g ∧ Ks.mu k = some g := by
      intro k i hk
      obtain ⟨g, hg⟩ := H.has i (subH_all hh hk)
      exact ⟨g, hg, S.ext.mu k g (by rw [mu_sub hk]; exact hg)⟩
    have holdN : ∀ k i, ids[k]? = some i → Ks.N k = K.N i := by
      intro k i hk
      obtain ⟨g, hg⟩ := H.has i (subH_all hh hk)
      rw [← N_sub hk]
      exact S.ext.N k g (by rw [mu_sub hk]; exact hg)
    have R : Ren (backF ids h.length) Ks (K.merge Ks ids h.length) := by
      refine ⟨rfl, rfl, rfl, rfl, fun k j g hf hg => ?_, fun k j g hf hg => ?_⟩
      rotate_left
      · unfold backF at hf
        split at hf
        · rename_i i hi
          cases hf
          rw [hN1 j (subH_all hh hi)]; exact (holdN k j hi).symm
        · rename_i hi
          cases hf
          have hkl : ids.length ≤ k := by
            by_cases hlt : k < ids.length
            · rw [List.getElem?_eq_getElem hlt] at hi; cases hi
            · omega
          rw [hN2 _ (by omega), show ids.length + (h.length + (k - ids.length) - h.length) = k by omega]
      unfold backF at hf
      split at hf
      · rename_i i hi
        cases hf
        obtain ⟨g', h1, h2⟩ := hold k j hi
        rw [hg] at h2
        cases h2
        rw [hmu1 j (subH_all hh hi)]; exact h1
      · rename_i hi
        cases hf
        have hkl : ids.length ≤ k := by
          by_cases hlt : k < ids.length
          · rw [List.getElem?_eq_getElem hlt] at hi; cases hi
          · omega
        rw [hmu2 _ (by omega), show ids.length + (h.length + (k - ids.length) - h.length) = k by omega]; exact hg
    have hX : Ext K (K.merge Ks ids h.length) := by
      refine ⟨S.ext.M, fun i g hi => ?_, fun i g hi => (S.zs g (H.lt i g hi)).1, fun i g hi => (S.zs g (H.lt i g hi)).2, S.ext.R, fun i g hi => ?_⟩
      rotate_left
      · have hil : i < h.length := by
          by_cases hlt : i < h.length
          · exact hlt
          · rw [H.fresh i (by omega)] at hi; cases hi
        exact hN1 i hil
      have hil : i < h.length := by
        by_cases hlt : i < h.length
        · exact hlt
        · rw [H.fresh i (by omega)] at hi; cases hi
      rw [hmu1 i hil]; exact hi
    have hfar : ∀ i x g, h[i]? = some x → x.live = true → K.mu i = some g → (∀ k : Nat, ids[k]? ≠ some i) → ¬ (K.sub ids).liveB hs g := by
      intro i x g hx hl hg hni hlb
      obtain ⟨k, j, y, hj, hy, hly, hmj⟩ := liveB_sub hh hlb
      have := H.inj i j x y g hx hy hl hly hg hmj
      subst this
      exact hni k hj
    have hcase : ∀ (i : Nat) y, (overlay h ids hb ++ hb.drop ids.length)[i]? = some y →
        (∃ k x, hs'[k]? = some x ∧ renO (backF ids h.length) x = some y ∧ (K.merge Ks ids h.length).mu i = Ks.mu k ∧ ((i < h.length ∧ ids[k]? = some i) ∨ (h.length ≤ i ∧ k = ids.length + (i - h.length)))) ∨
        (i < h.length ∧ (∀ k : Nat, ids[k]? ≠ some i) ∧ h[i]? = some y) := by
      intro i y hy
      by_cases hil : i < h.length
      · rw [List.getElem?_append_left (by rw [overlay_len]; exact hil)] at hy
        rcases overlay_at ids hb h hn (by omega) i y hy with ⟨k, h1, h2⟩ | ⟨h1, h2⟩
        · obtain ⟨x, hx, hxy⟩ := renH_at hrb k y h2
          obtain ⟨g, g1, g2⟩ := hold k i h1
          exact .inl ⟨k, x, hx, hxy, by rw [hmu1 i hil, g1, g2], .inl ⟨hil, h1⟩⟩
        · exact .inr ⟨hil, h1, h2⟩
      · rw [List.getElem?_append_right (by rw [overlay_len]; omega), overlay_len, List.getElem?_drop] at hy
        obtain ⟨x, hx, hxy⟩ := renH_at hrb _ y hy
        exact .inl ⟨_, x, hx, hxy, hmu2 i (by omega), .inr ⟨by omega, rfl⟩⟩
    have hlb : ∀ b, (K.sub ids).liveB hs b → K.liveB h b := by
      intro b hlb
      obtain ⟨k, j, y, hj, hy, hly, hmj⟩ := liveB_sub hh hlb
      exact ⟨j, y, hy, hly, hmj⟩
    have hlen' : (overlay h ids hb ++ hb.drop ids.length).length = h.length + (hs'.length - ids.length) := by simp [overlay_len, hbl]
    have hwr : WR (K.merge Ks ids h.length) (overlay h ids hb ++ hb.drop ids.length) w' := by
      refine ⟨fun i hi => ?_, fun i hi => ?_, fun i g hi => ?_, fun i ty cells hi => ?_, fun i ks vs hi => ?_, fun i ty sz len hi => ?_, fun i j x y g hi hj hlx hly hmi hmj => ?_, fun i ty cells g hi hm o => ?_, S.wr.agr, fun i ty sz p hi => ?_⟩
      · rw [hmu2 i (by omega)]; exact S.wr.fresh _ (by omega)
      · by_cases hil : i < h.length
        · rw [hmu1 i hil]; exact H.has i hil
        · rw [hmu2 i (by omega)]; exact S.wr.has _ (by omega)
      · by_cases hil : i < h.length
        · rw [hmu1 i hil] at hi; have := H.lt i g hi; have := S.frm.size; omega
        · rw [hmu2 i (by omega)] at hi; exact S.wr.lt _ g hi
      · rcases hcase i _ hi with ⟨k, x, hx, hxy, hmk, _⟩ | ⟨hil, hni, hx⟩
        · cases x with
          | box ty' c =>
            rw [renO] at hxy
            obtain ⟨l', hl', e⟩ := map_some' hxy
            cases e
            obtain ⟨g, cs, hm, hw, hs1, hv⟩ := S.wr.box k ty c hx
            exact ⟨g, cs, by rw [hmk]; exact hm, hw, hs1, renL_sound R (by rw [renL_len hl']; exact hv) hl'⟩
          | tok => rw [renO] at hxy; cases hxy
          | dead => rw [renO] at hxy; cases hxy
          | mp => rw [renO] at hxy; obtain ⟨l', hl', e⟩ := map_some' hxy; cases e
          | arr => rw [renO] at hxy; cases hxy
        · obtain ⟨g, cs, hm, hw, hs1, hv⟩ := H.box i ty cells hx
          refine ⟨g, cs, hX.mu i g hm, ?_, ?_, hv.mono hX⟩
          · rw [S.frm.block g (H.lt i g hm) (hfar i _ g hx rfl hm hni)]; exact hw
          · rw [hX.Z i g hm, hX.E i g hm]; exact hs1
      · rcases hcase i _ hi with ⟨k, x, hx, hxy, hmk, _⟩ | ⟨hil, hni, hx⟩
        · cases x with
          | mp ks' vs' =>
            rw [renO] at hxy
            obtain ⟨l', hl', e⟩ := map_some' hxy
            cases e
            obtain ⟨g, ents, clock, hm, hw, hv⟩ := S.wr.map k ks vs' hx
            exact ⟨g, ents, clock, by rw [hmk]; exact hm, hw, hv.ren R hl'⟩
          | box ty' c => rw [renO] at hxy; obtain ⟨l', hl', e⟩ := map_some' hxy; cases e
          | tok => rw [renO] at hxy; cases hxy
          | dead => rw [renO] at hxy; cases hxy
          | arr => rw [renO] at hxy; cases hxy
        · obtain ⟨g, ents, clock, hm, hw, hv⟩ := H.map i ks vs hx
          refine ⟨g, ents, clock, hX.mu i g hm, ?_, hv.mono hX⟩
          rw [S.frm.block g (H.lt i g hm) (hfar i _ g hx rfl hm hni)]; exact hw
      · rcases hcase i _ hi with ⟨k, x, hx, hxy, hmk, _⟩ | ⟨hil, hni, hx⟩
        · cases x with
          | box ty' c => rw [renO] at hxy; obtain ⟨l', hl', e⟩ := map_some' hxy; cases e
          | tok ty' sz' len' =>
            rw [renO] at hxy
            cases hxy
            obtain ⟨g, cs, hm, rest⟩ := S.wr.tok k ty sz len hx
            exact ⟨g, cs, by rw [hmk]; exact hm, rest⟩
          | dead => rw [renO] at hxy; cases hxy
          | mp => rw [renO] at hxy; obtain ⟨l', hl', e⟩ := map_some' hxy; cases e
          | arr => rw [renO] at hxy; cases hxy
        · obtain ⟨g, cs, hm, hw, h3, h4, h5, h6⟩ := H.tok i ty sz len hx
          have hgl := H.lt i g hm
          have hnl := hfar i _ g hx rfl hm hni
          refine ⟨g, cs, hX.mu i g hm, ?_, ?_, ?_, ?_, fun o ho => ?_⟩
          · rw [S.frm.block g hgl hnl]; exact hw
          · rw [hX.Z i g hm]; exact h3
          · rw [hX.E i g hm]; exact h4
          · rw [hX.Z i g hm]; exact h5
          · show Ks.M g o = none
            rw [S.ms g o hgl hnl]; rw [hX.R] at ho; exact h6 o ho
      · rcases hcase i _ hi with ⟨k, x', hx, hxy, hmk, hk⟩ | ⟨hil, hni, hx⟩
        · rcases hcase j _ hj with ⟨l, y', hy, hyy, hml, hl⟩ | ⟨hjl, hnj, hy⟩
          · rw [hmk] at hmi
            rw [hml] at hmj
            have := S.wr.inj k l x' y' g hx hy (by rw [← renO_live hxy]; exact hlx) (by rw [← renO_live hyy]; exact hly) hmi hmj
            subst this
            rcases hk with ⟨h1, h2⟩ | ⟨h1, h2⟩
            · rcases hl with ⟨h3, h4⟩ | ⟨h3, h4⟩
              · rw [h2] at h4; exact Option.some.inj h4
              · rw [List.getElem?_eq_none (by omega)] at h2; cases h2
            · rcases hl with ⟨h3, h4⟩ | ⟨h3, h4⟩
              · rw [List.getElem?_eq_none (by omega)] at h4; cases h4
              · omega
          · exfalso
            rw [hmu1 j hjl] at hmj
            rw [hmk] at hmi
            exact hfar j y g hy hly hmj hnj (S.live g ⟨k, x', hx, by rw [← renO_live hxy]; exact hlx, hmi⟩ (H.lt j g hmj))
        · rw [hmu1 i hil] at hmi
          rcases hcase j _ hj with ⟨l, y', hy, hyy, hml, hl⟩ | ⟨hjl, hnj, hy⟩
          · exfalso
            rw [hml] at hmj
            exact hfar i x g hx hlx hmi hni (S.live g ⟨l, y', hy, by rw [← renO_live hyy]; exact hly, hmj⟩ (H.lt i g hmi))
          · rw [hmu1 j hjl] at hmj
            exact H.inj i j x y g hx hy hlx hly hmi hmj
      · rcases hcase i _ hi with ⟨k, x, hx, hxy, hmk, _⟩ | ⟨hil, hni, hx⟩
        · rw [hmk] at hm
          cases x with
          | box ty' c => exact S.wr.apart k ty' c g hx hm o
          | tok => rw [renO] at hxy; cases hxy
          | dead => rw [renO] at hxy; cases hxy
          | mp => rw [renO] at hxy; obtain ⟨l', hl', e⟩ := map_some' hxy; cases e
          | arr => rw [renO] at hxy; cases hxy
        · rw [hmu1 i hil] at hm
          show Ks.M g o = none
          rw [S.ms g o (H.lt i g hm) (hfar i _ g hx rfl hm hni)]
          exact H.apart i ty cells g hx hm o
      · rcases hcase i _ hi with ⟨k, x, hx, hxy, hmk, hk⟩ | ⟨hil, hni, hx⟩
        · cases x with
          | box ty' c => rw [renO] at hxy; obtain ⟨l', hl', e⟩ := map_some' hxy; cases e
          | tok => rw [renO] at hxy; cases hxy
          | dead => rw [renO] at hxy; cases hxy
          | mp => rw [renO] at hxy; obtain ⟨l', hl', e⟩ := map_some' hxy; cases e
          | arr ty' sz' p' =>
            rw [renO] at hxy
            cases hxy
            obtain ⟨g, cs, hm, hw, hs1, ha⟩ := S.wr.arr k ty sz p hx
            refine ⟨g, cs, by rw [hmk]; exact hm, hw, hs1, ha.go ha.none rfl ?_ rfl rfl (fun _ _ _ h => h)⟩
            rcases hk with ⟨h1, h2⟩ | ⟨h1, h2⟩
            · rw [hN1 i h1]; exact (holdN k i h2).symm
            · rw [hN2 i h1, h2]
        · obtain ⟨g, cs, hm, hw, hs1, ha⟩ := H.arr i ty sz p hx
          have hgl := H.lt i g hm
          have hnl := hfar i _ g hx rfl hm hni
          refine ⟨g, cs, hX.mu i g hm, ?_, ?_, ha.go (fun o => ?_) ?_ (hN1 i hil) (hX.Z i g hm) (hX.E i g hm) (fun _ _ _ h => h.ext hX)⟩
          · rw [S.frm.block g hgl hnl]; exact hw
          · rw [hX.Z i g hm, hX.E i g hm]; exact hs1
          · show Ks.M g o = none
            rw [S.ms g o hgl hnl]; exact ha.none o
          · rw [hX.R]
    refine ⟨⟨hwr, hX, S.frm.mono (fun b _ hb => hlb b hb), S.zs, fun g o hg hnl => S.ms g o hg (fun h => hnl (hlb g h)), fun k b hk => ?_, fun b hb hlt => ?_, by rw [hlen']; omega⟩, R, S.frm.mono (fun b _ hb => ?_)⟩
    · by_cases hkl : k < h.length
      · rw [hmu1 k hkl] at hk; exact .inl hk
      · rw [hmu2 k (by omega)] at hk
        rcases S.mu _ b hk with h1 | h1 | h1
        · obtain ⟨i, hi, _⟩ := sub_mu h1
          rw [List.getElem?_eq_none (by omega)] at hi; cases hi
        · exact .inr (.inl h1)
        · exact .inr (.inr (hlb b h1))
    · obtain ⟨i, y, hi, hl, hmi⟩ := hb
      rcases hcase i _ hi with ⟨k, x, hx, hxy, hmk, _⟩ | ⟨hil, hni, hx⟩
      · rw [hmk] at hmi
        exact hlb b (S.live b ⟨k, x, hx, by rw [← renO_live hxy]; exact hl, hmi⟩ hlt)
      · rw [hmu1 i hil] at hmi
        exact ⟨i, y, hx, hl, hmi⟩
    · obtain ⟨k, j, y, hj, hy, hly, hmj⟩ := liveB_sub hh hb
      exact ⟨j, y, List.mem_of_getElem? hj, hy, hly, hmj⟩
  · cases hm

/-- The slice types whose rows are written (in closed runs: all). -/
def mutT : TypeId → Bool := fun _ => true

def boundM (ρ : Operand → Option AV) (r len : Nat) : Option Operand → Bool
  | none => true
  | some x => match ρ x with
    | some v => match intV v with
      | some n => decide (0 ≤ n ∧ r ≤ n.toNat ∧ n.toNat ≤ len)
      | none => false
    | none => false
def qmIA (P : Program) (ρ : Operand → Option AV) (t : TypeId) (x i : Operand) : Option (AV × Option Nat) := match ρ x with
  | some (.sl o lo len sz) => match ρ i, P.underlying t with
    | some v, some (.slice e) => match intV v with
      | some n => if 0 ≤ n ∧ n.toNat < len ∧ szA P e = some sz then some (.ptr o (lo * sz + n.toNat * sz), none) else none
      | none => none
    | _, _ => none
  | _ => none
def qmSlice (P : Program) (ρ : Operand → Option AV) (t : TypeId) (x : Operand) (lo hi mx : Option Operand) : Option (AV × Option Nat) := match ρ x with
  | some (.sl o b len sz) => match P.underlying t, boundA ρ 0 lo, boundA ρ len hi with
    | some (.slice e), some l, some r => if l ≤ r ∧ r ≤ len ∧ szA P e = some sz ∧ boundM ρ r len mx = true ∧ (mx.isSome = true → hi.isSome = true) then some (.sl o (b + l) (r - l) sz, none) else none
    | _, _, _ => none
  | _ => none
def qmLen (P : Program) (ρ : Operand → Option AV) (args : Array Operand) (ts : Array TypeId) : Option (AV × Option Nat) := match args.toList, ts.toList with
  | [x], [t] => match ρ x, P.underlying t with
    | some (.sl _ _ len _), some (.slice _) => some (.pv (.lit (.int .i64 len)), none)
    | _, _ => none
  | _, _ => none
def qmCap (P : Program) (ρ : Operand → Option AV) (args : Array Operand) (ts : Array TypeId) : Option (AV × Option Nat) := match args.toList, ts.toList with
  | [x], [t] => match ρ x, P.underlying t with
    | some (.pv (.lit (.slice none 0 0))), some (.slice _) => some (.pv (.lit (.int .i64 0)), none)
    | _, _ => none
  | _, _ => none
def isEq : BinOp → Option Bool
  | .eql => some false
  | .neq => some true
  | _ => none
def qmBin (P : Program) (ρ : Operand → Option AV) (b : BinOp) (t : TypeId) (x y : Operand) : Option (AV × Option Nat) := match ρ x, ρ y with
  | some (.mp _), some (.pv (.lit (.map none))) => match isEq b, P.underlying t with
    | some r, some (.map _ _) => some (.pv (.lit (.bool r)), none)
    | _, _ => none
  | some (.sl _ _ _ _), some (.pv (.lit (.slice none 0 0))) => match isEq b, P.underlying t with
    | some r, some (.slice _) => some (.pv (.lit (.bool r)), none)
    | _, _ => none
  | some (.ifc _ _), some (.pv (.lit .nilIface)) => match isEq b, P.underlying t with
    | some r, some (.interface _) => some (.pv (.lit (.bool r)), none)
    | _, _ => none
  | _, _ => none
/-- Where a key stands. -/
def findK (kind : TypeDesc) (k : Value) : List Value → Option (Option Nat)
  | [] => some none
  | e :: es => match Instr.sameNow kind k e with
    | some true => some (some 0)
    | some false => match findK kind k es with
      | some (some j) => some (some (j + 1))
      | some none => some none
      | none => none
    | none => none
def keyOk : TypeDesc → Value → Bool
  | .int k, .int k' _ => decide (k' = k)
  | .string, .string _ => true
  | _, _ => false
/-- Any key: one of a struct of texts, too. -/
def keyFit (P : Program) (kt : TypeId) (d : TypeDesc) (key : Value) : Bool := match keyOk d key with
  | true => true
  | false => (pureRun P (Instr.checkKey true 10000 kt key)).isSome && (pureRun P (Instr.checkKey false 10000 kt key)).isSome
def findP (P : Program) (kt : TypeId) (k : Value) : List Value → Option (Option Nat)
  | [] => some none
  | e :: es => match pureRun P (Op.equal kt k e) with
    | some true => some (some 0)
    | some false => match findP P kt k es with
      | some (some j) => some (some (j + 1))
      | some none => some none
      | none => none
    | none => none
def findKP (P : Program) (kt : TypeId) (d : TypeDesc) (k : Value) (ks : List Value) : Option (Option Nat) := match findK d k ks with
  | some r => some r
  | none => findP P kt k ks
def zeroV (P : Program) (t : TypeId) : Option AV := match P.info? t with
  | some i => match i.zero with
    | some (.agg cs) => if cs.toList.all plainV then some (.agg (cs.toList.map fun v => .pv (.lit v))) else none
    | some v => ofVal v
    | none => none
  | none => none
/-- What a map has at a key. -/
def lookA (P : Program) (kt et : TypeId) (d : TypeDesc) (key : Value) (ks : List Value) (vs : List AV) (ok : Bool) : Option AV := if keyFit P kt d key then match findKP P kt d key ks with
    | some (some j) => match vs[j]? with
      | some v => some (if ok then .tup [v, .pv (.lit (.bool true))] else v)
      | none => none
    | some none => match zeroV P et with
      | some z => some (if ok then .tup [z, .pv (.lit (.bool false))] else z)
      | none => none
    | none => none
  else none
def qmLook (P : Program) (ρ : Operand → Option AV) (h : List AObj) (t : TypeId) (m k : Operand) (ok : Bool) : Option (AV × Option Nat) := match ρ m with
  | some (.mp i) => match h[i]?, (ρ k).bind AV.val?, P.underlying t with
    | some (.mp ks vs), some key, some (.map kt et) => match P.underlying kt with
      | some d => match specB ks vs with
        | true => none
        | false => match lookA P kt et d key ks vs ok with
          | some v => some (v, some i)
          | none => none
      | none => none
    | _, _, _ => none
  | _ => none
def qmIfc (P : Program) (ρ : Operand → Option AV) (t : TypeId) (x : Operand) : Option (AV × Option Nat) := match ρ x, P.underlying t with
  | some _, some (.interface _) => none
  | some v, some _ => some (.ifc t v, none)
  | _, _ => none
def qmAssert (P : Program) (ρ : Operand → Option AV) (x : Operand) (t : TypeId) (ok : Bool) : Option (AV × Option Nat) := match P.underlying t with
  | some (.interface _) => none
  | some _ => match ρ x with
    | some (.ifc t' v) => if t' = t then some (if ok then .tup [v, .pv (.lit (.bool true))] else v, none) else if ok then match zeroV P t with
        | some z => some (.tup [z, .pv (.lit (.bool false))], none)
        | none => none
      else none
    | _ => none
  | none => none
def qopM (P : Program) (op : Op) (ρ : Operand → Option AV) (h : List AObj) : Option (AV × Option Nat) := match op with
  | .indexAddr t x i => qmIA P ρ t x i
  | .slice t x lo hi mx => qmSlice P ρ t x lo hi mx
  | .binOp b t x y _ => qmBin P ρ b t x y
  | .lookup t m k ok => qmLook P ρ h t m k ok
  | .makeInterface t x => qmIfc P ρ t x
  | .typeAssert x _ t ok => qmAssert P ρ x t ok
  | .call ⟨.builtin .len, args, ts⟩ => qmLen P ρ args ts
  | .call ⟨.builtin .cap, args, ts⟩ => qmCap P ρ args ts
  | _ => none

section
variable {P : Program} {o : Oper} {ρ : Operand → Value} {ρA : Operand → Option AV} {K : Kn} {h : List AObj} {w : World}

theorem qmIA_sound (hρ : ∀ x v, ρA x = some v → VR K v (ρ x)) {t : TypeId} {x i : Operand} (ho : o.op = .indexAddr t x i) {v : AV} {dep : Option Nat} (hq : qmIA P ρA t x i = some (v, dep)) : Yld P o ρ K w v dep := by
  unfold qmIA at hq
  split at hq
  · rename_i ob lo len sz hx
    split at hq
    · rename_i iv e hi hu
      split at hq
      · rename_i n hn
        split at hq
        · rename_i hc
          cases hq
          obtain ⟨k, hk⟩ := intV_sound (hρ i _ hi) hn
          have hxv := hρ x _ hx
          generalize hxe : ρ x = xv at hxv
          cases hxv with
          | sl _ _ _ _ g cap off hm he hl hz hof =>
            have hof := hof (by omega)
            subst hof
            have hlt : n < (len : Int) := by omega
            refine .of (.pointer (some ⟨g, lo * sz + n.toNat * sz, none⟩)) (.ptr ob _ g hm) (fun w' => ?_)
            simp [execOp, ho, hxe, hk, Instr.indexAt, asIntOf, run_underlying hu, hc.1, hlt, szA_run hc.2.2, Addr.add_lit]
        · cases hq
      · cases hq
    · cases hq
  · cases hq
theorem boundM_sound (hρ : ∀ x v, ρA x = some v → VR K v (ρ x)) {r len : Nat} {mx : Option Operand} (h : boundM ρA r len mx = true) : mx = none ∨ ∃ x k n, mx = some x ∧ ρ x = .int k ((n : Nat) : Int) ∧ r ≤ n ∧ n ≤ len := by
  unfold boundM at h
  split at h
  · exact .inl rfl
  · rename_i x
    split at h
    · rename_i v hv
      split at h
      · rename_i n hn
        have hh := of_decide_eq_true h
        obtain ⟨k, hk⟩ := intV_sound (hρ x _ hv) hn
        refine .inr ⟨x, k, n.toNat, rfl, ?_, hh.2.1, hh.2.2⟩
        rw [hk]; congr 1; omega
      · cases h
    · cases h
theorem qmSlice_sound (hρ : ∀ x v, ρA x = some v → VR K v (ρ x)) {t : TypeId} {x : Operand} {lo hi mx : Option Operand} (ho : o.op = .slice t x lo hi mx) {v : AV} {dep : Option Nat} (hq : qmSlice P ρA t x lo hi mx = some (v, dep)) : Yld P o ρ K w v dep := by
  unfold qmSlice at hq
  split at hq
  · rename_i ob b len sz hx
    split at hq
    · rename_i e l r hu hl hr
      split at hq
      · rename_i hc
        cases hq
        obtain ⟨h1, h2, h3, h4, h5⟩ := hc
        have hxv := hρ x _ hx
        generalize hxe : ρ x = xv at hxv
        cases hxv with
        | sl _ _ _ _ g cap off hm he hlc hz hof =>
          have key : ∃ m, r ≤ m ∧ m ≤ cap ∧ ∀ w' : World, (Instr.sliceBounds true len cap (lo.map ρ) (hi.map ρ) (mx.map ρ)).run P w' = .ok (l, r, m) w' := by
            rcases boundM_sound hρ h4 with rfl | ⟨y, k, n, rfl, hy, hn1, hn2⟩
            · refine ⟨cap, by omega, Nat.le_refl _, fun w' => ?_⟩
              have h1' : ∀ k c, (Instr.sliceBound (.int k (r : Int)) cap c).run P w' = .ok r w' := fun k c => run_sliceBound w' k r cap c (by omega)
              have h2' : ∀ k c, (Instr.sliceBound (.int k (l : Int)) r c).run P w' = .ok l w' := fun k c => run_sliceBound w' k l r c h1
              rcases boundA_sound hρ hr with ⟨rfl, rfl⟩ | ⟨y, k, rfl, hy⟩
              · rcases boundA_sound hρ hl with ⟨rfl, rfl⟩ | ⟨z, k', rfl, hz⟩
                · simp [Instr.sliceBounds]
                · simp [Instr.sliceBounds, hz, h2']
              · rcases boundA_sound hρ hl with ⟨rfl, rfl⟩ | ⟨z, k', rfl, hz⟩
                · simp [Instr.sliceBounds, hy, h1']
                · simp [Instr.sliceBounds, hy, hz, h1', h2']
            · refine ⟨n, hn1, by omega, fun w' => ?_⟩
              have h0' : ∀ k c, (Instr.sliceBound (.int k (n : Int)) cap c).run P w' = .ok n w' := fun k c => run_sliceBound w' k n cap c (by omega)
              have h1' : ∀ k c, (Instr.sliceBound (.int k (r : Int)) n c).run P w' = .ok r w' := fun k c => run_sliceBound w' k r n c (by omega)
              have h2' : ∀ k c, (Instr.sliceBound (.int k (l : Int)) r c).run P w' = .ok l w' := fun k c => run_sliceBound w' k l r c h1
              obtain ⟨y2, k2, rfl, hy2⟩ : ∃ y k, hi = some y ∧ ρ y = .int k (r : Int) := by
                rcases boundA_sound hρ hr with ⟨e1, _⟩ | hh
                · rw [e1] at h5; exact absurd (h5 rfl) (by simp)
                · exact hh
              rcases boundA_sound hρ hl with ⟨rfl, rfl⟩ | ⟨z, k', rfl, hz⟩
              · simp [Instr.sliceBounds, hy, hy2, h0', h1']
              · simp [Instr.sliceBounds, hy, hy2, hz, h0', h1', h2']
          obtain ⟨m, hm1, hm2, hB⟩ := key
          refine .of (.slice (if m = l then some ⟨g, off, none⟩ else (some ⟨g, off, none⟩ : Option Addr).map (·.add (l * sz))) (r - l) (m - l)) ?_ (fun w' => ?_)
          · by_cases hml : m = l
            · rw [if_pos hml]
              exact .sl ob (b + l) (r - l) sz g (m - l) off hm he (by omega) (by omega) (fun h => by omega)
            · rw [if_neg hml, Option.map_some, Addr.add_lit]
              refine .sl ob (b + l) (r - l) sz g (m - l) (off + l * sz) hm he (by omega) (by omega) (fun h => ?_)
              rw [hof (by omega), Nat.add_mul]
          · simp [execOp, ho, hxe, Instr.sliceAt, Instr.slice, run_underlying hu, hB, szA_run h3]
      · cases hq
    · cases hq
  · cases hq
theorem qmLen_sound (hρ : ∀ x v, ρA x = some v → VR K v (ρ x)) {args : Array Operand} {ts : Array TypeId} (ho : o.op = .call ⟨.builtin .len, args, ts⟩) {v : AV} {dep : Option Nat} (hq : qmLen P ρA args ts = some (v, dep)) : Yld P o ρ K w v dep := by
  unfold qmLen at hq
  split at hq
  · rename_i x t ha hts
    have e1 : args = #[x] := by rw [← Array.toArray_toList (xs := args), ha]
    have e2 : ts = #[t] := by rw [← Array.toArray_toList (xs := ts), hts]
    subst e1
    subst e2
    split at hq
    · rename_i ob lo len sz e hx hu
      cases hq
      have hxv := hρ x _ hx
      generalize hxe : ρ x = xv at hxv
      cases hxv with
      | sl _ _ _ _ g cap off hm he hlc hz hof =>
        refine .of (.int .i64 len) (.pv (.lit _ rfl)) (fun w' => ?_)
        simp [execOp, ho, resolve, invoke, builtin, hxe, Builtin.len_, run_underlying hu, goInt]
    · cases hq
  · cases hq
theorem qmCap_sound (hρ : ∀ x v, ρA x = some v → VR K v (ρ x)) {args : Array Operand} {ts : Array TypeId} (ho : o.op = .call ⟨.builtin .cap, args, ts⟩) {v : AV} {dep : Option Nat} (hq : qmCap P ρA args ts = some (v, dep)) : Yld P o ρ K w v dep := by
  unfold qmCap at hq
  split at hq
  · rename_i x t ha hts
    have e1 : args = #[x] := by rw [← Array.toArray_toList (xs := args), ha]
    have e2 : ts = #[t] := by rw [← Array.toArray_toList (xs := ts), hts]
    subst e1
    subst e2
    split at hq
    · rename_i e hx hu
      cases hq
      have hxe : ρ x = .slice none 0 0 := val_eq (hρ x _ hx) rfl
      refine .of (.int .i64 0) (.pv (.lit _ rfl)) (fun w' => ?_)
      simp [execOp, ho, resolve, invoke, builtin, hxe, Builtin.cap_, run_underlying hu, goInt]
    · cases hq
  · cases hq
/-- What is there is not nil. -/
def NotNil (P : Program) (t : TypeId) (p q : Value) : Prop := (∀ w' : World, (Op.equal t p q).run P w' = .ok false w') ∧ (∀ b x y (w' : World), (eqGuard b t x y p q).run P w' = .ok () w') ∧ (binOp .eql t p q = do pure (.bool (← Op.equal t p q))) ∧ (binOp .neq t p q = do pure (.bool (!(← Op.equal t p q))))
theorem equalIn_map {t kt et : TypeId} (hu : P.underlying t = some (.map kt et)) (g d : Nat) (w' : World) : (Op.equalIn (d + 1) t (.map (some g)) (.map none)).run P w' = .ok false w' := by simp [Op.equalIn, run_underlying hu]
theorem equalIn_slice {t e : TypeId} (hu : P.underlying t = some (.slice e)) (a : Addr) (n c d : Nat) (w' : World) : (Op.equalIn (d + 1) t (.slice (some a) n c) (.slice none 0 0)).run P w' = .ok false w' := by simp [Op.equalIn, run_underlying hu]
theorem notNil_map {t kt et : TypeId} (hu : P.underlying t = some (.map kt et)) (g : Nat) : NotNil P t (.map (some g)) (.map none) :=
  ⟨fun w' => equalIn_map hu g 9999 w', fun b x y w' => by cases b <;> simp [eqGuard], rfl, rfl⟩
theorem notNil_slice {t e : TypeId} (hu : P.underlying t = some (.slice e)) (a : Addr) (n c : Nat) : NotNil P t (.slice (some a) n c) (.slice none 0 0) :=
  ⟨fun w' => equalIn_slice hu a n c 9999 w', fun b x y w' => by cases b <;> simp [eqGuard], rfl, rfl⟩
theorem equalIn_iface {t : TypeId} {m : Array (String × TypeId)} (hu : P.underlying t = some (.interface m)) (a : TypeId) (u : Value) (d : Nat) (w' : World) : (Op.equalIn (d + 1) t (.iface a u) .nilIface).run P w' = .ok false w' := by simp [Op.equalIn, run_underlying hu]
theorem notNil_iface {t : TypeId} {m : Array (String × TypeId)} (hu : P.underlying t = some (.interface m)) (a : TypeId) (u : Value) : NotNil P t (.iface a u) .nilIface :=
  ⟨fun w' => equalIn_iface hu a u 9999 w', fun b x y w' => by cases b <;> simp [eqGuard], rfl, rfl⟩
theorem NotNil.run {t : TypeId} {p q : Value} (hn : NotNil P t p q) {b : BinOp} {r : Bool} (hb : isEq b = some r) (x y : Operand) (w' : World) : (do eqGuard b t x y p q; binOp b t p q : Sem Value).run P w' = .ok (.bool r) w' := by
  obtain ⟨h1, h2, h3, h4⟩ := hn
  unfold isEq at hb
  split at hb
  · cases hb
    rw [h3]
    simp only [Sem.run_bind, h2, Result.andThen_ok, h1, Sem.run_pure]
  · cases hb
    rw [h4]
    simp only [Sem.run_bind, h2, Result.andThen_ok, h1, Sem.run_pure, Bool.not_false]
  · cases hb
theorem qmBin_sound (hρ : ∀ x v, ρA x = some v → VR K v (ρ x)) {b : BinOp} {t : TypeId} {x y : Operand} {c : TypeId} (ho : o.op = .binOp b t x y c) {v : AV} {dep : Option Nat} (hq : qmBin P ρA b t x y = some (v, dep)) : Yld P o ρ K w v dep := by
  unfold qmBin at hq
  split at hq
  · rename_i i hx hy
    split at hq
    · rename_i r kt et hb hu
      cases hq
      have hxv := hρ x _ hx
      have hyv : ρ y = .map none := val_eq (hρ y _ hy) rfl
      generalize hxe : ρ x = xv at hxv
      cases hxv with
      | mp _ g hm =>
        refine .of (.bool r) (.pv (.lit _ rfl)) (fun w' => ?_)
        simp only [execOp, ho]
        rw [Sem.run_bind, hxe, hyv, (notNil_map hu g).run hb x y w']
        rfl
    · cases hq
  · rename_i i lo len sz hx hy
    split at hq
    · rename_i r kt hb hu
      cases hq
      have hxv := hρ x _ hx
      have hyv : ρ y = .slice none 0 0 := val_eq (hρ y _ hy) rfl
      generalize hxe : ρ x = xv at hxv
      cases hxv with
      | sl _ _ _ _ g cap off hm he hlc hz hof =>
        refine .of (.bool r) (.pv (.lit _ rfl)) (fun w' => ?_)
        simp only [execOp, ho]
        rw [Sem.run_bind, hxe, hyv, (notNil_slice hu _ _ _).run hb x y w']
        rfl
    · cases hq
  · rename_i i v0 hx hy
    split at hq
    · rename_i r ms hb hu
      cases hq
      have hxv := hρ x _ hx
      have hyv : ρ y = .nilIface := val_eq (hρ y _ hy) rfl
      generalize hxe : ρ x = xv at hxv
      cases hxv with
      | ifc _ hz =>
        refine .of (.bool r) (.pv (.lit _ rfl)) (fun w' => ?_)
        simp only [execOp, ho]
        rw [Sem.run_bind, hxe, hyv, (notNil_iface hu _ _).run hb x y w']
        rfl
    · cases hq
  · cases hq
theorem findK_spec {d : TypeDesc} {key : Value} : ∀ (es : List MapEntry) (i : Nat) (r : Option Nat), findK d key (es.map (·.key)) = some r → Instr.findNow d key es i = some (r.bind fun j => es[j]?.map fun e => (i + j, e.val)) ∧ (∀ j, r = some j → j < es.length)
  | [], i, r, h => by cases h; exact ⟨rfl, fun j h => by cases h⟩
  | e :: es, i, r, h => by
    simp only [List.map_cons, findK] at h
    unfold Instr.findNow
    split at h
    · rename_i hs
      cases h
      rw [hs]
      exact ⟨rfl, fun j hj => by cases hj; simp⟩
    · rename_i hs
      rw [hs]
      split at h
      · rename_i j hj
        cases h
        obtain ⟨h1, h2⟩ := findK_spec es (i + 1) _ hj
        refine ⟨?_, fun k hk => by cases hk; have := h2 j rfl; simpa using this⟩
        simp only [h1]
        simp only [Option.bind_some, List.getElem?_cons_succ]
        congr 2
        funext e'
        congr 1
        omega
      · rename_i hj
        cases h
        obtain ⟨h1, h2⟩ := findK_spec es (i + 1) _ hj
        exact ⟨by simp only [h1]; rfl, fun k hk => by cases hk⟩
      · cases h
    · cases h
theorem findK_none {d : TypeDesc} {key : Value} : ∀ (es : List MapEntry) (i : Nat), findK d key (es.map (·.key)) = none → Instr.findNow d key es i = none
  | [], i, h => by cases h
  | e :: es, i, h => by
    simp only [List.map_cons, findK] at h
    unfold Instr.findNow
    split at h
    · cases h
    · rename_i hs
      rw [hs]
      split at h
      · cases h
      · cases h
      · rename_i hn
        exact findK_none es (i + 1) hn
    · rename_i hs
      rw [hs]
theorem findP_spec {kt : TypeId} {key : Value} : ∀ (es : List MapEntry) (i : Nat) (r : Option Nat), findP P kt key (es.map (·.key)) = some r → (∀ w : World, (Instr.findAsking kt key es i).run P w = .ok (r.bind fun j => es[j]?.map fun e => (i + j, e.val)) w) ∧ (∀ j, r = some j → j < es.length)
  | [], i, r, h => by cases h; exact ⟨fun w => rfl, fun j h => by cases h⟩
  | e :: es, i, r, h => by
    simp only [List.map_cons, findP] at h
    split at h
    · rename_i hs
      cases h
      refine ⟨fun w => ?_, fun j hj => by cases hj; simp⟩
      rw [Instr.findAsking, Sem.run_bind, pureRun_run hs w]
      rfl
    · rename_i hs
      split at h
      · rename_i j hj
        cases h
        obtain ⟨h1, h2⟩ := findP_spec es (i + 1) _ hj
        refine ⟨fun w => ?_, fun k hk => by cases hk; have := h2 j rfl; simpa using this⟩
        rw [Instr.findAsking, Sem.run_bind, pureRun_run hs w]
        simp only [Result.andThen_ok, Bool.false_eq_true, if_false, h1]
        simp only [Option.bind_some, List.getElem?_cons_succ]
        congr 2
        funext e'
        congr 1
        omega
      · rename_i hj
        cases h
        obtain ⟨h1, h2⟩ := findP_spec es (i + 1) _ hj
        refine ⟨fun w => ?_, fun k hk => by cases hk⟩
        rw [Instr.findAsking, Sem.run_bind, pureRun_run hs w]
        simp only [Result.andThen_ok, Bool.false_eq_true, if_false, h1]
        rfl
      · cases h
    · cases h
theorem findKP_spec {kt : TypeId} {d : TypeDesc} {key : Value} (hd : P.underlying kt = some d) (es : List MapEntry) (r : Option Nat) (h : findKP P kt d key (es.map (·.key)) = some r) :
    (∀ w : World, (Instr.findKey kt key es).run P w = .ok (r.bind fun j => es[j]?.map fun e => (j, e.val)) w) ∧ (∀ j, r = some j → j < es.length) := by
  unfold findKP at h
  split at h
  · rename_i r' hr
    cases h
    obtain ⟨h1, h2⟩ := findK_spec es 0 _ hr
    refine ⟨fun w => ?_, h2⟩
    rw [MapKept.run_findKey hd h1]
    simp
  · rename_i hn
    obtain ⟨h1, h2⟩ := findP_spec es 0 _ h
    refine ⟨fun w => ?_, h2⟩
    unfold Instr.findKey
    rw [Sem.run_bind, run_underlying hd]
    simp only [Result.andThen_ok, findK_none es 0 hn, h1]
    simp
theorem keyOk_is {d : TypeDesc} {k : Value} (h : keyOk d k = true) : MapKept.IsKey d k := by
  unfold keyOk at h
  split at h
  · simpa [MapKept.IsKey] using h
  · simp [MapKept.IsKey]
  · cases h
theorem keyFit_run {kt : TypeId} {d : TypeDesc} {key : Value} (hd : P.underlying kt = some d) (h : keyFit P kt d key = true) (e : Bool) (w' : World) : (Instr.checkKey e 10000 kt key).run P w' = .ok () w' := by
  unfold keyFit at h
  split at h
  · rename_i hk
    exact MapKept.run_checkKey hd (keyOk_is hk) e 9999
  · rw [Bool.and_eq_true] at h
    obtain ⟨⟨⟩, h1⟩ := Option.isSome_iff_exists.1 h.1
    obtain ⟨⟨⟩, h2⟩ := Option.isSome_iff_exists.1 h.2
    cases e
    · exact pureRun_run h2 w'
    · exact pureRun_run h1 w'
theorem zeroV_sound {t : TypeId} {z : AV} (h : zeroV P t = some z) : ∃ u, VR K z u ∧ ∀ w' : World, (zeroValue t).run P w' = .ok u w' := by
  unfold zeroV at h
  split at h
  · rename_i i hi
    split at h
    · rename_i cs hz
      split at h
      · rename_i hp
        cases h
        refine ⟨.agg cs, ?_, fun w' => by simp [zeroValue, typeInfo, hi, hz]⟩
        have := VR.agg (K := K) (cs.toList.map fun v => .pv (.lit v)) cs.toList (by simp) (fun k hk hk' => by
          simp only [List.getElem_map]
          rw [List.all_eq_true] at hp
          exact .pv (.lit _ (hp _ (List.getElem_mem _))))
        simpa using this
      · cases h
    · rename_i v _ hz
      exact ⟨v, ofVal_sound h, fun w' => by simp [zeroValue, typeInfo, hi, hz]⟩
    · cases h
  · cases h
theorem lookA_sound {t kt et : TypeId} {d : TypeDesc} (hu : P.underlying t = some (.map kt et)) (hd : P.underlying kt = some d) {key : Value} {ks : List Value} {vs : List AV} {ok : Bool} {v : AV} {ents : Array MapEntry} {clock g i : Nat} (hks : ents.toList.map (·.key) = ks) (hvs : VL K vs (ents.toList.map (·.val)))
    (hg : K.mu i = some g) (hw : w.heap[g]? = some (.map ents clock)) {m k : Operand} (ho : o.op = .lookup t m k ok) (hme : ρ m = .map (some g)) (hkey : ρ k = key) (hq : lookA P kt et d key ks vs ok = some v) : Yld P o ρ K w v (some i) := by
  unfold lookA at hq
  split at hq
  · rename_i hko
    have hck : ∀ (e : Bool) (w' : World), (Instr.checkKey e 10000 kt key).run P w' = .ok () w' := fun e w' => keyFit_run hd hko e w'
    split at hq
    · rename_i j hj
      rw [← hks] at hj
      obtain ⟨h1, h2⟩ := findKP_spec hd ents.toList _ hj
      split at hq
      · rename_i x hx
        cases hq
        obtain ⟨u, hu1, hu2⟩ := hvs.at_ hx
        rw [List.getElem?_map] at hu1
        obtain ⟨e, he, rfl⟩ := map_some' hu1
        simp only [Option.bind_some, he] at h1
        refine ⟨if ok then .tuple #[e.val, .bool true] else e.val, ?_, fun w' _ hdep => ?_⟩
        · cases ok
          · exact hu2
          · exact .tup [x, .pv (.lit (.bool true))] [e.val, .bool true] rfl (fun n hn hn' => by
              match n, hn with
              | 0, _ => exact hu2
              | 1, _ => exact .pv (.lit _ rfl))
        · have hb := (hdep i rfl g hg).trans hw
          have hf := h1 w'
          simp only [execOp, ho, hme, hkey, Instr.lookup, Sem.run_bind, run_underlying hu, Result.andThen_ok, MapKept.run_getObj_map hb, Sem.run_pure, hck, hf, Option.map_some]
      · cases hq
    · rename_i hj
      rw [← hks] at hj
      obtain ⟨h1, h2⟩ := findKP_spec hd ents.toList _ hj
      split at hq
      · rename_i z hz
        cases hq
        obtain ⟨u, hu1, hu2⟩ := zeroV_sound (K := K) hz
        simp only [Option.bind_none] at h1
        refine ⟨if ok then .tuple #[u, .bool false] else u, ?_, fun w' _ hdep => ?_⟩
        · cases ok
          · exact hu1
          · exact .tup [z, .pv (.lit (.bool false))] [u, .bool false] rfl (fun n hn hn' => by
              match n, hn with
              | 0, _ => exact hu1
              | 1, _ => exact .pv (.lit _ rfl))
        · have hb := (hdep i rfl g hg).trans hw
          have hf := h1 w'
          simp only [execOp, ho, hme, hkey, Instr.lookup, Sem.run_bind, run_underlying hu, Result.andThen_ok, MapKept.run_getObj_map hb, Sem.run_pure, hck, hf, hu2]
      · cases hq
    · cases hq
  · cases hq
theorem qmLook_sound (H : WR K h w) (hρ : ∀ x v, ρA x = some v → VR K v (ρ x)) {t : TypeId} {m k : Operand} {ok : Bool} (ho : o.op = .lookup t m k ok) {v : AV} {dep : Option Nat} (hq : qmLook P ρA h t m k ok = some (v, dep)) : Yld P o ρ K w v dep := by
  unfold qmLook at hq
  split at hq
  · rename_i i hm
    split at hq
    · rename_i ks vs key kt et hi hk hu
      split at hq
      · rename_i d hd
        split at hq
        · cases hq
        · rename_i hsp
          split at hq
          · rename_i v0 hl
            cases hq
            obtain ⟨ka, hka, hkv⟩ := Option.bind_eq_some_iff.1 hk
            have hkey : ρ k = key := val_eq (hρ k _ hka) hkv
            have hmv := hρ m _ hm
            generalize hme : ρ m = mv at hmv
            cases hmv with
            | mp _ g hg =>
              obtain ⟨g', ents, clock, hg', hw, hml⟩ := H.map i ks vs hi
              rw [hg] at hg'
              cases hg'
              obtain ⟨hks, hvs⟩ := (ML.plain hsp).1 hml
              exact lookA_sound hu hd hks hvs hg hw ho hme hkey hl
          · cases hq
      · cases hq
    · cases hq
  · cases hq
theorem qmIfc_sound (hρ : ∀ x v, ρA x = some v → VR K v (ρ x)) {t : TypeId} {x : Operand} (ho : o.op = .makeInterface t x) {v : AV} {dep : Option Nat} (hq : qmIfc P ρA t x = some (v, dep)) : Yld P o ρ K w v dep := by
  unfold qmIfc at hq
  split at hq
  · cases hq
  · rename_i v0 d hni hx hu
    cases hq
    refine .of (.iface t (ρ x)) (.ifc t (hρ x _ hx)) (fun w' => ?_)
    have hr : (Instr.makeInterface t (ρ x)).run P w' = .ok (.iface t (ρ x)) w' := by
      unfold Instr.makeInterface
      rw [Sem.run_bind, run_underlying hu]
      simp only [Result.andThen_ok]
      rfl
    simp only [execOp, ho, Sem.run_bind, hr, Result.andThen_ok, Sem.run_pure]
  · cases hq
theorem qmAssert_sound (hρ : ∀ x v, ρA x = some v → VR K v (ρ x)) {t xt : TypeId} {x : Operand} {ok : Bool} (ho : o.op = .typeAssert x xt t ok) {v : AV} {dep : Option Nat} (hq : qmAssert P ρA x t ok = some (v, dep)) : Yld P o ρ K w v dep := by
  unfold qmAssert at hq
  split at hq
  · cases hq
  · rename_i d hni hu
    split at hq
    · rename_i t' v0 hx
      have hxv := hρ x _ hx
      generalize hxe : ρ x = xv at hxv
      cases hxv with
      | ifc _ hz =>
        rename_i uz
        have hcase : ∀ w' : World, (Instr.typeAssert (.iface t' uz) xt t ok).run P w' = (if t' = t then (pure (if ok then .tuple #[uz, .bool true] else uz) : Sem Value) else (if ok then (do pure (.tuple #[← zeroValue t, .bool false])) else runtimePanic (.typeAssertion (some xt) (some t') t ""))).run P w' := by
          intro w'
          unfold Instr.typeAssert
          rw [Sem.run_bind, run_underlying hu]
          simp only [Result.andThen_ok]
        split at hq
        · rename_i e
          cases hq
          refine .of (if ok then .tuple #[uz, .bool true] else uz) ?_ (fun w' => ?_)
          · cases ok
            · exact hz
            · exact .tup [v0, .pv (.lit (.bool true))] [uz, .bool true] rfl (fun n hn hn' => by
                match n, hn with
                | 0, _ => exact hz
                | 1, _ => exact .pv (.lit _ rfl))
          · simp only [execOp, ho, hxe, Sem.run_bind, hcase w', if_pos e, Sem.run_pure, Result.andThen_ok]
        · rename_i e
          split at hq
          · rename_i hok
            split at hq
            · rename_i z hz'
              cases hq
              obtain ⟨u, hu1, hu2⟩ := zeroV_sound (K := K) hz'
              refine .of (.tuple #[u, .bool false]) (.tup [z, .pv (.lit (.bool false))] [u, .bool false] rfl (fun n hn hn' => by
                match n, hn with
                | 0, _ => exact hu1
                | 1, _ => exact .pv (.lit _ rfl))) (fun w' => ?_)
              rw [hok] at hcase ho
              simp only [execOp, ho, hxe, Sem.run_bind, hcase w', if_neg e, if_true, hu2 w', Sem.run_pure, Result.andThen_ok]
            · cases hq
          · cases hq
    · cases hq
  · cases hq
theorem qopM_sound (H : WR K h w) (hρ : ∀ x v, ρA x = some v → VR K v (ρ x)) {v : AV} {dep : Option Nat} (hq : qopM P o.op ρA h = some (v, dep)) : Yld P o ρ K w v dep := by
  unfold qopM at hq
  split at hq
  · rename_i ho; exact qmIA_sound hρ ho hq
  · rename_i ho; exact qmSlice_sound hρ ho hq
  · rename_i ho; exact qmBin_sound hρ ho hq
  · rename_i ho; exact qmLook_sound H hρ ho hq
  · rename_i ho; exact qmIfc_sound hρ ho hq
  · rename_i ho; exact qmAssert_sound hρ ho hq
  · rename_i ho; exact qmLen_sound hρ ho hq
  · rename_i ho; exact qmCap_sound hρ ho hq
  · cases hq
end

/-- An update of a map. -/
def updA (P : Program) (kt : TypeId) (d : TypeDesc) (key : Value) (ks : List Value) (vs : List AV) (v : AV) : Option (List Value × List AV) := match findKP P kt d key ks with
  | some (some j) => match ks[j]? with
    | some old => if Instr.sameBits 10000 old key then some (ks.set j key, vs.set j v) else none
    | none => none
  | some none => some (ks ++ [key], vs ++ [v])
  | none => none
def emUpd (P : Program) (ρ : Operand → Option AV) (h : List AObj) (t : TypeId) (m k x : Operand) : Option (AV × List AObj × List Nat) := match ρ m, ρ x with
  | some (.mp i), some v => match h[i]?, (ρ k).bind AV.val?, P.underlying t with
    | some (.mp ks vs), some key, some (.map kt _) => match P.underlying kt with
      | some d => match specB ks vs with
        | true => none
        | false => if keyFit P kt d key then match updA P kt d key ks vs v with
            | some (ks', vs') => some (.tup [], h.set i (.mp ks' vs'), [i])
            | none => none
          else none
      | none => none
    | _, _, _ => none
  | _, _ => none
def emMap (h : List AObj) : Option Operand → Option (AV × List AObj × List Nat)
  | none => some (.mp h.length, h ++ [.mp [] []], [])
  | some _ => none
def emMake (P : Program) (ρ : Operand → Option AV) (h : List AObj) (t : TypeId) (l c : Operand) : Option (AV × List AObj × List Nat) := match ρ l, ρ c, P.underlying t with
  | some lv, some cv, some (.slice e) => match intV lv, intV cv, zeroA P e, szA P e, bytesA P e with
    | some n, some m, some zc, some sz, some by_ => if n = m ∧ 0 ≤ n ∧ 0 < sz ∧ zc.length = sz ∧ n ≤ 1000000 ∧ (by_ : Int) * n ≤ 281474976710656 then
        some (.sl h.length 0 n.toNat sz, h ++ [.box e (zerosA zc (n.toNat * sz))], []) else none
    | _, _, _, _, _ => none
  | _, _, _ => none
/-- The elements of a row, as cells. -/
def srcA (h : List AObj) (sz : Nat) : AV → Option (Nat × List AV)
  | .sl o lo len s => match boxAt h o with
    | some c => if s = sz ∧ (lo + len) * sz ≤ c.length then some (len, (c.drop (lo * sz)).take (len * sz)) else none
    | none => none
  | .pv (.lit (.slice none 0 0)) => some (0, [])
  | x => match rowsOf x with
    | some es => if es.all (fun c => c.length == sz) then some (es.length, (List.range (es.length * sz)).map fun k => .pv ((es.getD (k / sz) []).getD (k % sz) .any)) else none
    | none => none
def emApp (P : Program) (h : List AObj) (t : TypeId) (s x : AV) : Option (AV × List AObj × List Nat) := match P.underlying t with
  | some (.slice e) => match szA P e, bytesA P e, zeroA P e with
    | some sz, some by_, some zc => if 0 < sz ∧ zc.length = sz then match srcA h sz x with
        | some (0, _) => match s with
          | .sl _ _ _ _ => some (s, h, [])
          | s => if isNilSlice s then some (s, h, []) else none
        | some (n + 1, new) => if new.all AV.isCell then match s with
            | .sl o 0 len sz' => match h[o]? with
              | some (.box ty cells) => if ty = e ∧ sz' = sz ∧ len * sz ≤ cells.length ∧ len + (n + 1) ≤ 1000000000000 ∧ (len + (n + 1)) * by_ ≤ 140737488355328 then
                  some (.sl h.length 0 (len + (n + 1)) sz, h.set o .dead ++ [.box e (cells.take (len * sz) ++ new)], [o]) else none
              | _ => none
            | s => if isNilSlice s ∧ mutT t = true ∧ n + 1 ≤ 1000000000000 ∧ (n + 1) * by_ ≤ 140737488355328 then some (.sl h.length 0 (n + 1) sz, h ++ [.box e new], []) else none
          else none
        | none => none
      else none
    | _, _, _ => none
  | _ => none
/-- A row of parts, to be written. -/
def bslM (P : Program) (t : TypeId) (len : Nat) (ps : List (Nat × AV)) : Option (TypeId × Nat × List AV) := match P.underlying t with
  | some (.slice e) => match zeroA P e, szA P e with
    | some zc, some s => if 0 < s ∧ zc.length = s ∧ len * s ≤ 16777216 then match fillA (fun i => some (i * s, s)) (zerosA zc (len * s)) ps with
        | some out => some (e, s, out)
        | none => none
      else none
    | _, _ => none
  | _ => none
def emBsl (P : Program) (ρ : Operand → Option AV) (h : List AObj) (t : TypeId) (len : Nat) (parts : Array (Nat × Operand)) : Option (AV × List AObj × List Nat) := match partsA ρ parts.toList with
  | some ps => match bslM P t len ps with
    | some (e, s, out) => some (.sl h.length 0 len s, h ++ [.box e out], [])
    | none => none
  | none => none
def emClear (P : Program) (h : List AObj) (t : TypeId) (x : AV) : Option (AV × List AObj × List Nat) := match P.underlying t with
  | some (.slice e) => match x with
    | .pv (.lit (.slice none 0 0)) => some (.tup [], h, [])
    | .sl _ _ 0 _ => some (.tup [], h, [])
    | .sl o lo (n + 1) sz => match h[o]?, zeroA P e with
      | some (.box ty cells), some zc => if 0 < zc.length ∧ zc.length = sz ∧ lo * sz + (n + 1) * sz ≤ cells.length ∧ zc.all AV.isCell = true then
          some (.tup [], h.set o (.box ty (setAt cells (lo * sz) (zerosA zc ((n + 1) * sz)))), [o]) else none
      | _, _ => none
    | _ => none
  | _ => none
/-- The append of n zeros to a nil slice. -/
def emZero (P : Program) (h : List AObj) (t it : TypeId) (s x : AV) : Option (AV × List AObj × List Nat) := match P.underlying t, P.underlying it, intV x with
  | some (.slice e), some (.int _), some n => match szA P e, bytesA P e, zeroA P e with
    | some sz, some by_, some zc => if isNilSlice s = true ∧ 0 < sz ∧ zc.length = sz ∧ 0 < n ∧ n ≤ 1000000 ∧ n.toNat * by_ ≤ 140737488355328 then
        some (.sl h.length 0 n.toNat sz, h ++ [.box e (zerosA zc (n.toNat * sz))], []) else none
    | _, _, _ => none
  | _, _, _ => none
def eopM (P : Program) (op : Op) (ρ : Operand → Option AV) (h : List AObj) : Option (AV × List AObj × List Nat) := match op with
  | .makeMap _ r => emMap h r
  | .mapUpdate t m k x => emUpd P ρ h t m k x
  | .insert t m k x => emUpd P ρ h t m k x
  | .makeSlice t l c => emMake P ρ h t l c
  | .call ⟨.builtin .append, args, ts⟩ => match opsA ρ args.toList, ts.toList with
    | some [s, x], [t, t'] => if t = t' then emApp P h t s x else emZero P h t t' s x
    | _, _ => none
  | .call ⟨.builtin .clear, args, ts⟩ => match opsA ρ args.toList, ts.toList with
    | some [x], [t] => emClear P h t x
    | _, _ => none
  | _ => none
/-- A row of parts that are no pure data. -/
def eopB (P : Program) (op : Op) (ρ : Operand → Option AV) (h : List AObj) : Option (AV × List AObj × List Nat) := match op with
  | .buildSlice t len parts => emBsl P ρ h t len parts
  | _ => none
section
variable {P : Program} {o : Oper} {ρ : Operand → Value} {ρA : Operand → Option AV} {K : Kn} {h : List AObj} {w : World}

theorem VL.set {l : List AV} {cs : List Value} (hv : VL K l cs) {a : AV} {v : Value} (ha : VR K a v) (j : Nat) : VL K (l.set j a) (cs.set j v) := by
  refine ⟨by simp [hv.1], fun i hi hi' => ?_⟩
  rw [List.getElem_set, List.getElem_set]
  split
  · exact ha
  · exact hv.2 i (by simpa using hi) (by simpa using hi')
theorem updA_sound {kt : TypeId} {d : TypeDesc} (hd : P.underlying kt = some d) {key : Value} {ents : Array MapEntry} {clock : Nat} {ks ks' : List Value} {vs vs' : List AV} {v : AV} {u : Value} (hm : ents.toList.map (·.key) = ks ∧ VL K vs (ents.toList.map (·.val))) (hv : VR K v u) (hq : updA P kt d key ks vs v = some (ks', vs')) :
    ∃ (r : Option (Nat × Value)) (ents' : Array MapEntry) (clock' : Nat), (∀ w : World, (Instr.findKey kt key ents.toList).run P w = .ok r w) ∧ (ents'.toList.map (·.key) = ks' ∧ VL K vs' (ents'.toList.map (·.val))) ∧
      ((r = none ∧ ents' = ents.push { key := key, val := u, born := clock } ∧ clock' = clock + 1) ∨
       ∃ j e, r = some (j, e.val) ∧ ents[j]? = some e ∧ Instr.sameBits 10000 e.key key = true ∧ ents' = ents.modify j (fun e => { e with key := key, val := u }) ∧ clock' = clock) := by
  unfold updA at hq
  split at hq
  · rename_i j hj
    split at hq
    · rename_i old ho
      split at hq
      · rename_i hsb
        cases hq
        rw [← hm.1] at hj
        obtain ⟨h1, h2⟩ := findKP_spec hd ents.toList _ hj
        rw [← hm.1, List.getElem?_map] at ho
        obtain ⟨e, he, rfl⟩ := map_some' ho
        simp only [Option.bind_some, he] at h1
        refine ⟨some (j, e.val), _, clock, h1, ?_, .inr ⟨j, e, rfl, by simpa using he, hsb, rfl, rfl⟩⟩
        have hmod : (ents.modify j (fun e => { e with key := key, val := u })).toList = ents.toList.set j { e with key := key, val := u } := by
          rw [Array.toList_modify]
          apply List.ext_getElem?
          intro i
          rw [List.getElem?_modify, List.getElem?_set]
          by_cases hij : j = i
          · subst hij
            have hlt : j < ents.toList.length := h2 j rfl
            simp only [if_pos rfl, if_pos hlt, he]; rfl
          · simp [hij]
        refine ⟨?_, ?_⟩
        · rw [hmod, List.map_set, hm.1]
        · rw [hmod, List.map_set]; exact hm.2.set hv j
      · cases hq
    · cases hq
  · rename_i hj
    cases hq
    rw [← hm.1] at hj
    obtain ⟨h1, _⟩ := findKP_spec hd ents.toList _ hj
    refine ⟨none, _, clock + 1, h1, ?_, .inl ⟨rfl, rfl, rfl⟩⟩
    refine ⟨by simp [hm.1], ?_⟩
    simpa using hm.2.append (VL.single hv)
  · cases hq
theorem updA_keys {kt : TypeId} {d : TypeDesc} {key : Value} {ks ks' : List Value} {vs vs' : List AV} {v : AV} (hq : updA P kt d key ks vs v = some (ks', vs')) : specB ks' vs' = false := by
  have key2 : ks' ≠ [] → specB ks' vs' = false := by
    intro h
    cases ks' with
    | nil => exact absurd rfl h
    | cons _ _ => rfl
  unfold updA at hq
  split at hq
  · split at hq
    · rename_i j _ old ho
      split at hq
      · cases hq
        refine key2 fun e => ?_
        have := congrArg List.length e
        rw [List.length_set, List.length_nil] at this
        rw [List.length_eq_zero_iff.1 this] at ho
        cases ho
      · cases hq
    · cases hq
  · cases hq
    exact key2 (by simp)
  · cases hq
theorem upd_core (H : WR K h w) {t kt et : TypeId} {d : TypeDesc} (hu : P.underlying t = some (.map kt et)) (hd : P.underlying kt = some d) {key : Value} {ks ks' ks0 ks2 : List Value} {vs vs' vs0 vs2 : List AV} {i g clock : Nat} {ents : Array MapEntry} {m k x : Operand} {vx : AV}
    (ho : o.op = .mapUpdate t m k x ∨ o.op = .insert t m k x) (hi : h[i]? = some (.mp ks0 vs0)) (hg : K.mu i = some g) (hw : w.heap[g]? = some (.map ents clock)) (hml : ents.toList.map (·.key) = ks ∧ VL K vs (ents.toList.map (·.val))) (hko : keyFit P kt d key = true)
    (hkey : ρ k = key) (hme : ρ m = .map (some g)) (hvx : VR K vx (ρ x)) (hup : updA P kt d key ks vs vx = some (ks', vs')) (hnew : ∀ l : List MapEntry, l.map (·.key) = ks' ∧ VL K vs' (l.map (·.val)) → ML K ks2 vs2 l) : Eff P o ρ K h w (.tup []) (h.set i (.mp ks2 vs2)) [i] := by
  obtain ⟨r, ents', clock', hf, hml', hcase⟩ := updA_sound hd (clock := clock) hml hvx hup
  have hck : (Instr.checkKey false 10000 kt key).run P w = .ok () w := keyFit_run hd hko false w
  have hrun : (Instr.mapUpdate t (.map (some g)) key (ρ x)).run P w = .ok () { w with heap := w.heap.setIfInBounds g (.map ents' clock') } := by
    have hfk := hf w
    rcases hcase with ⟨rfl, rfl, rfl⟩ | ⟨j, e, rfl, he, hsb, rfl, rfl⟩
    · simp only [Instr.mapUpdate, Sem.run_bind, run_underlying hu, Result.andThen_ok, MapKept.run_getObj_map hw, hck, hfk, MapKept.run_setObj_map _ hw]
    · simp only [Instr.mapUpdate, Sem.run_bind, run_underlying hu, Result.andThen_ok, MapKept.run_getObj_map hw, hck, hfk, he, Option.map_some, Option.getD_some, Instr.keyThatStays, if_pos hsb, Sem.run_pure, MapKept.run_setObj_map _ hw]
  obtain ⟨hs1, hs2⟩ := MapKept.heap_set (o' := .map ents' clock') hw
  refine ⟨.skip, _, { w with heap := w.heap.setIfInBounds g (.map ents' clock') }, K, ?_, .inr ⟨rfl, rfl⟩, VR.undef K, ?_, ?_⟩
  · rcases ho with ho | ho <;> simp only [execOp, ho, hme, hkey, Sem.run_bind, hrun, Result.andThen_ok, Sem.run_pure]
  · exact Step.store H i (.mp ks0 vs0) (.mp ks2 vs2) g hi rfl rfl hg ⟨ents', clock', hs1, hnew _ hml'⟩ (fun o => H.mapM hw o) ⟨rfl, rfl, rfl, by simp, fun k _ hk => hs2 k hk⟩ (by simp) (fun k hk => hs2 k hk)
  · exact ⟨rfl, rfl, rfl, by simp, fun k hk hs => hs2 k (fun e => hs ⟨i, _, by simp, hi, rfl, by rw [e]; exact hg⟩)⟩
theorem emUpd_sound (H : WR K h w) (hρ : ∀ x v, ρA x = some v → VR K v (ρ x)) {t : TypeId} {m k x : Operand} (ho : o.op = .mapUpdate t m k x ∨ o.op = .insert t m k x) {v : AV} {h' : List AObj} {touch : List Nat} (hq : emUpd P ρA h t m k x = some (v, h', touch)) : Eff P o ρ K h w v h' touch := by
  unfold emUpd at hq
  split at hq
  · rename_i i vx hm hx
    split at hq
    · rename_i ks vs key kt et hi hk hu
      split at hq
      · rename_i d hd
        split at hq
        · cases hq
        · rename_i hsp
          split at hq
          · rename_i hko
            split at hq
            · rename_i ks' vs' hup
              cases hq
              obtain ⟨ka, hka, hkv⟩ := Option.bind_eq_some_iff.1 hk
              have hkey : ρ k = key := val_eq (hρ k _ hka) hkv
              have hmv := hρ m _ hm
              generalize hme : ρ m = mv at hmv
              cases hmv with
              | mp _ g hg =>
                obtain ⟨g', ents, clock, hg', hw, hml⟩ := H.map i ks vs hi
                rw [hg] at hg'
                cases hg'
                exact upd_core H hu hd ho hi hg hw ((ML.plain hsp).1 hml) hko hkey hme (hρ x _ hx) hup (fun l hl => (ML.plain (updA_keys hup)).2 hl)
            · cases hq
          · cases hq
      · cases hq
    · cases hq
  · cases hq
theorem emMap_row (H : WR K h w) {t : TypeId} (ho : o.op = .makeMap t none) : Eff P o ρ K h w (.mp h.length) (h ++ [.mp [] [.pv (.rows [])]]) [] := by
  refine ⟨.value (.map (some w.heap.size)), _, w.alloc (.map #[] 0), _, ?_, .inl rfl, .mp _ _ (withBox_mu _ _ _ 0 0), Step.fresh H (.mp [] [.pv (.rows [])]) 0 0 (.map #[] 0) rfl ⟨rfl, rfl, rfl, by simp, fun k hk _ => Below.heap_alloc w _ k hk⟩ (fun hx => ⟨#[], 0, heap_alloc_new w _, ML.row.2 ⟨[], by rfl, rfl, rfl, fun i hi => by simp at hi⟩⟩), Frm.alloc _ _ _⟩
  have hr : (Instr.makeMap t none).run P w = .ok (.map (some w.heap.size)) (w.alloc (.map #[] 0)) := rfl
  simp only [execOp, ho, Option.map_none, Sem.run_bind, hr, Result.andThen_ok, Sem.run_pure]
theorem emMap_sound (H : WR K h w) {t : TypeId} {r : Option Operand} (ho : o.op = .makeMap t r) {v : AV} {h' : List AObj} {touch : List Nat} (hq : emMap h r = some (v, h', touch)) : Eff P o ρ K h w v h' touch := by
  cases r with
  | some _ => cases hq
  | none =>
    cases hq
    refine ⟨.value (.map (some w.heap.size)), _, w.alloc (.map #[] 0), _, ?_, .inl rfl, .mp _ _ (withBox_mu _ _ _ 0 0), Step.fresh H (.mp [] []) 0 0 (.map #[] 0) rfl ⟨rfl, rfl, rfl, by simp, fun k hk _ => Below.heap_alloc w _ k hk⟩ (fun hx => ⟨#[], 0, heap_alloc_new w _, rfl, rfl, fun i hi => by simp at hi⟩), Frm.alloc _ _ _⟩
    have hr : (Instr.makeMap t none).run P w = .ok (.map (some w.heap.size)) (w.alloc (.map #[] 0)) := rfl
    simp only [execOp, ho, Option.map_none, Sem.run_bind, hr, Result.andThen_ok, Sem.run_pure]
theorem emMake_sound (H : WR K h w) (hρ : ∀ x v, ρA x = some v → VR K v (ρ x)) {t : TypeId} {l c : Operand} (ho : o.op = .makeSlice t l c) {v : AV} {h' : List AObj} {touch : List Nat} (hq : emMake P ρA h t l c = some (v, h', touch)) : Eff P o ρ K h w v h' touch := by
  unfold emMake at hq
  split at hq
  · rename_i lv cv e hl hc hu
    split at hq
    · rename_i n m zc sz by_ hn hm hz hs hb
      split at hq
      · rename_i hcond
        cases hq
        obtain ⟨rfl, h0, hsz, hzc, hle, hby⟩ := hcond
        obtain ⟨k1, hk1⟩ := intV_sound (hρ l _ hl) hn
        obtain ⟨k2, hk2⟩ := intV_sound (hρ c _ hc) hm
        obtain ⟨i, z, hi, hiz, hvz⟩ := zeroA_sound (K := K) hz
        have his : i.size = sz := by unfold szA at hs; rw [hi] at hs; simpa using hs
        have hib : i.bytes = by_ := by unfold bytesA at hb; rw [hi] at hb; simpa using hb
        have hrun := run_make (P := P) w t e i z hu hi hiz k1 k2 n n h0 (Int.le_refl _) (by rw [hib]; exact hby) (by omega)
        rw [his] at hrun
        have hms : (madeCells z.cells (n.toNat * sz)).size = n.toNat * sz := size_madeCells _ _
        have hvl := zerosA_sound hvz (by omega) (n.toNat * sz)
        refine ⟨.value (.slice (some ⟨w.heap.size, 0, none⟩) n.toNat n.toNat), _, w.alloc (.cells (madeCells z.cells (n.toNat * sz)) e), K.withBox h.length w.heap.size n.toNat sz, ?_, .inl rfl, ?_, ?_, Frm.alloc _ _ _⟩
        · simp only [execOp, ho, hk1, hk2, Sem.run_bind, hrun, Result.andThen_ok, Sem.run_pure]
        · exact .sl _ 0 _ sz _ _ 0 (withBox_mu _ _ _ _ _) (withBox_E _ _ _ _ _) (Nat.le_refl _) (by rw [withBox_Z]; omega) (fun _ => by omega)
        · refine Step.fresh H _ n.toNat sz _ rfl ⟨rfl, rfl, rfl, by simp, fun k hk _ => Below.heap_alloc w _ k hk⟩ (fun hx => ⟨_, heap_alloc_new w _, ?_, ?_⟩)
          · rw [withBox_Z, withBox_E]; exact ⟨hms, by unfold maxLen; omega⟩
          · have hl1 : (zerosA zc (n.toNat * sz)).length = n.toNat * sz := by simp [zerosA]
            rw [hl1, List.take_of_length_le (by rw [Array.length_toList, hms]; exact Nat.le_refl _)]
            exact hvl.mono hx
      · cases hq
    · cases hq
  · cases hq
theorem boxAt_some {i : Nat} {c : List AV} (h1 : boxAt h i = some c) : ∃ ty, h[i]? = some (.box ty c) := by
  unfold boxAt at h1
  split at h1
  · rename_i ty c' hi; cases h1; exact ⟨ty, hi⟩
  · cases h1
theorem srcA_sound (H : WR K h w) {x : AV} {v : Value} (hv : VR K x v) {sz n : Nat} {cells : List AV} (hp : 0 < sz) (hq : srcA h sz x = some (n, cells)) :
    ∃ a cap, v = .slice a n cap ∧ (0 < n → ∃ ad news, a = some ad ∧ VL K cells news ∧ news.length = n * sz ∧ ∀ j u, news[j]? = some u → w.cell? (ad.add j) = some u) := by
  unfold srcA at hq
  split at hq
  · rename_i ob lo len s
    split at hq
    · rename_i c hc
      split at hq
      · rename_i hcond
        cases hq
        obtain ⟨rfl, hle⟩ := hcond
        obtain ⟨ty, hi⟩ := boxAt_some hc
        obtain ⟨g, cs, hm, hw, hs, hvl⟩ := H.box ob ty c hi
        cases hv with
        | sl _ _ _ _ g' cap off hm' he hlc hz hof =>
          rw [hm] at hm'
          cases hm'
          refine ⟨_, cap, rfl, fun hn => ?_⟩
          have hof := hof (by omega)
          subst hof
          have hcl : c.length ≤ cs.size := by have := hvl.1; simp at this; omega
          have e1 : (lo + n) * s = lo * s + n * s := Nat.add_mul _ _ _
          refine ⟨_, ((cs.toList.take c.length).drop (lo * s)).take (n * s), rfl, (hvl.drop _).take _, ?_, fun j u hj => ?_⟩
          · simp; omega
          · rw [List.getElem?_take] at hj
            split at hj
            · rw [List.getElem?_drop, List.getElem?_take] at hj
              split at hj
              · rw [add_mid]
                rw [Array.getElem?_toList] at hj
                simp [World.cell?, hw, hj]
              · cases hj
            · cases hj
      · cases hq
    · cases hq
  · cases hq
    exact ⟨none, 0, val_eq hv rfl, fun hn => by omega⟩
  · split at hq
    · rename_i es hes
      split at hq
      · rename_i hall
        cases hq
        have hpr := rowsOf_sound hv hes
        by_cases hne : es = []
        · subst hne
          cases hpr with
          | rows _ a cap g off sz us ha hn _ _ _ => exact ⟨a, cap, rfl, fun hn => by simp at hn⟩
        · have hsize : ∀ i (hi : i < es.length), es[i].length = sz := fun i hi => by
            rw [List.all_eq_true] at hall
            simpa using hall _ (List.getElem_mem hi)
          obtain ⟨g, off, cap, news, he, hnl, hnM, hnP⟩ := row_news hpr hne hsize hp
          refine ⟨_, cap, he, fun _ => ⟨_, news, rfl, ⟨by simp [hnl], fun k hk hk' => ?_⟩, hnl, fun j u hj => by rw [add_mid]; exact H.agr _ _ _ (hnM j u hj)⟩⟩
          simp only [List.getElem_map, List.getElem_range]
          rw [hnl] at hk'
          have h1 : k / sz < es.length := Nat.div_lt_of_lt_mul (by rw [Nat.mul_comm]; exact hk')
          have h2 : k % sz < es[k / sz].length := by rw [hsize _ h1]; exact Nat.mod_lt _ hp
          obtain ⟨u, hu1, hu2⟩ := hnP (k / sz) h1 (k % sz) h2
          have e2 : k / sz * sz + k % sz = k := by rw [Nat.mul_comm]; exact Nat.div_add_mod k sz
          rw [e2, List.getElem?_eq_getElem (by rw [hnl]; exact hk')] at hu1
          rw [Option.some.inj hu1]
          refine .pv ?_
          have e3 : es.getD (k / sz) [] = es[k / sz] := by simp [List.getD, List.getElem?_eq_getElem h1]
          rw [e3]
          have e4 : es[k / sz].getD (k % sz) .any = es[k / sz][k % sz] := by simp [List.getD, List.getElem?_eq_getElem h2]
          rw [e4]
          exact hu2
      · cases hq
    · cases hq
theorem emApp_sound (H : WR K h w) {args : Array Operand} {s x : Operand} (ha : args.toList = [s, x]) {t : TypeId} {ts : Array TypeId} (hts : ts.toList = [t, t]) (ho : o.op = .call ⟨.builtin .append, args, ts⟩)
    {sA xA : AV} (hs : VR K sA (ρ s)) (hx : VR K xA (ρ x)) {v : AV} {h' : List AObj} {touch : List Nat} (hq : emApp P h t sA xA = some (v, h', touch)) : Eff P o ρ K h w v h' touch := by
  unfold emApp at hq
  split at hq
  · rename_i e hu
    split at hq
    · rename_i sz by_ zc hsz hby hz
      obtain ⟨i, z, hi, hiz, hvz⟩ := zeroA_sound (K := K) hz
      have his : i.size = sz := by unfold szA at hsz; rw [hi] at hsz; simpa using hsz
      have hib : i.bytes = by_ := by unfold bytesA at hby; rw [hi] at hby; simpa using hby
      split at hq
      · rename_i hc0
        have hzs : z.cells.size = sz := by have := hvz.1; simp at this; omega
        split at hq
        · rename_i cells hsrc
          obtain ⟨a, cap, hxe, _⟩ := srcA_sound H hx hc0.1 hsrc
          have hse : ∃ base n c, ρ s = .slice base n c ∧ n ≤ c ∧ v = sA ∧ h' = h ∧ touch = [] := by
            split at hq
            · rename_i ob lo len sz'
              cases hq
              generalize hsx : ρ s = sv at hs
              cases hs with
              | sl _ _ _ _ g cap off hm he hl hz' hof => exact ⟨_, _, _, rfl, hl, rfl, rfl, rfl⟩
            · split at hq
              · rename_i hn
                cases hq
                exact ⟨none, 0, 0, isNil_sound hs hn, Nat.le_refl _, rfl, rfl, rfl⟩
              · cases hq
          obtain ⟨base, n, c, h1, h2, rfl, rfl, rfl⟩ := hse
          refine ⟨_, ρ s, w, K, exec_append ha hts ho (v := ρ s) ?_, .inl rfl, hs, Step.refl H, Frm.refl _ _⟩
          rw [h1, hxe]
          exact run_append_none t o.type e i hu hi base a n c cap h2 w
        · rename_i n new hsrc
          split at hq
          · rename_i hcell
            obtain ⟨a, capx, hxe, hnews⟩ := srcA_sound H hx hc0.1 hsrc
            obtain ⟨ad, news, rfl, hvn, hnl, hncell⟩ := hnews (by omega)
            have h1 : ∀ u ∈ news, u.oneCell' = true := all_cell hvn hcell
            have hnn : new.length = (n + 1) * sz := by rw [hvn.1]; exact hnl
            split at hq
            · rename_i ob len sz'
              split at hq
              · rename_i ty cells hob
                split at hq
                · rename_i hcond
                  obtain ⟨rfl, rfl, hlc, hmx, hbt⟩ := hcond
                  cases hq
                  obtain ⟨g, cs, hm, hwg, ⟨hcs, hZ⟩, hvl⟩ := H.box ob ty cells hob
                  have hcl : cells.length ≤ cs.size := by have := hvl.1; simp at this; omega
                  generalize hse : ρ s = sv at hs
                  cases hs with
                  | sl _ _ _ _ g' cap off hm' he hl hzz hof =>
                    rw [hm] at hm'
                    cases hm'
                    rw [he] at hcs
                    have hsetlen : (h.set ob .dead).length = h.length := by simp
                    have hlive : ∀ (j : Nat) x, (h.set ob .dead)[j]? = some x → x.live = true → h[j]? = some x ∧ j ≠ ob := by
                      intro j x hj hl
                      rw [List.getElem?_set] at hj
                      by_cases ej : ob = j
                      · rw [if_pos ej] at hj
                        split at hj
                        · cases hj; cases hl
                        · cases hj
                      · rw [if_neg ej] at hj; exact ⟨hj, fun e => ej e.symm⟩
                    have htake : (cs.toList.take (len * sz')).length = len * sz' := by simp; omega
                    have hvo : VL K (cells.take (len * sz')) (cs.toList.take (len * sz')) := by
                      have := hvl.take (len * sz')
                      rwa [List.take_take, Nat.min_eq_left hlc] at this
                    have hvall : VL K (cells.take (len * sz') ++ new) (cs.toList.take (len * sz') ++ news) := hvo.append hvn
                    have hlall : (cells.take (len * sz') ++ new).length = (cs.toList.take (len * sz') ++ news).length := hvall.1
                    by_cases hroom : len + (n + 1) ≤ cap
                    · have hof := hof (by omega)
                      rw [Nat.zero_mul] at hof
                      subst hof
                      have hfit : len * sz' + news.length ≤ cs.size := by rw [hnl, hcs, ← Nat.add_mul]; exact Nat.mul_le_mul_right _ (by omega)
                      have hrun := run_append_room (P := P) w t o.type ty i hu hi g len cap cs hwg ad (n + 1) capx news (by rw [his]; exact hnl) hncell h1 hroom (by rw [his]; exact hfit)
                      rw [his] at hrun
                      rw [← hse, ← hxe] at hrun
                      generalize hcur : (cs.toList.take (len * sz') ++ news ++ cs.toList.drop (len * sz' + news.length)).toArray = cur at hrun
                      have hcurs : cur.size = K.Z g * sz' := by rw [← hcur, ← hcs]; simp; omega
                      have hst := Step.put H (h1 := h.set ob .dead) (w' := w.setRow g cur) (.box ty (cells.take (len * sz') ++ new)) g (K.Z g) (K.E g)
                        ⟨cur, setRow_heap w g cs cur ty _ hwg, by rw [withBox_Z, withBox_E, he]; exact ⟨hcurs, hZ⟩, by
                          rw [hlall, ← hcur]
                          show VL _ _ (List.take _ (cs.toList.take (len * sz') ++ news ++ cs.toList.drop (len * sz' + news.length)))
                          rw [List.take_left]
                          exact hvall.mono (Ext.withBox (H.fresh _ (Nat.le_refl _)) (fun _ _ => ⟨rfl, rfl⟩))⟩
                        (by have := heap_lt hwg; simpa [World.setRow] using this) ⟨rfl, rfl, rfl, by simp [World.setRow], fun k _ hk => setRow_other w g k _ hk⟩
                        (fun o => H.apart ob ty cells g hob hm o) hsetlen (fun j x hj hl => by
                          obtain ⟨h2, h3⟩ := hlive j x hj hl
                          exact ⟨h2, fun e => h3 (H.inj j ob x _ g h2 hob hl rfl e hm)⟩)
                        (fun i _ => ⟨rfl, rfl⟩) (.inr ⟨ob, _, hob, rfl, hm⟩)
                      refine ⟨_, _, _, _, exec_append ha hts ho hrun, .inl rfl, .sl _ 0 _ sz' g cap 0 (withBox_mu _ _ _ _ _) (by rw [withBox_E]; exact he) hroom (by rw [withBox_Z]; omega) (fun _ => by omega), hst, ⟨rfl, rfl, rfl, by simp [World.setRow], fun k _ hk => setRow_other w g k _ (fun e => hk ⟨ob, _, by simp, hob, rfl, by rw [e]; exact hm⟩)⟩⟩
                    · have holds : ∀ j v, (cs.toList.take (len * sz'))[j]? = some v → w.cell? ((⟨g, off, none⟩ : Addr).add j) = some v := by
                        intro j v hj
                        have hjl : j < len * sz' := by
                          by_cases hh : j < len * sz'
                          · exact hh
                          · rw [List.getElem?_eq_none (by omega)] at hj; cases hj
                        have hl0 : 0 < len := by
                          rcases Nat.eq_zero_or_pos len with h0 | h0
                          · rw [h0] at hjl; omega
                          · exact h0
                        have hof := hof (by omega)
                        rw [Nat.zero_mul] at hof
                        subst hof
                        rw [add_mid, Nat.zero_add]
                        rw [List.getElem?_take, if_pos hjl, Array.getElem?_toList] at hj
                        simp [World.cell?, hwg, hj]
                      have hrun := run_append_grow (P := P) w t o.type ty i z hu hi hiz ⟨g, off, none⟩ len cap (cs.toList.take (len * sz')) (by rw [his]; exact htake) holds ad (n + 1) capx news (by rw [his]; exact hnl) hncell (by omega) (by omega) (growslice_fits (by omega) (by rw [hib]; exact hbt))
                      rw [← hse, ← hxe] at hrun
                      have hge := grownCap_ge w (len + (n + 1)) cap ty
                      have hcm := grownCap_le_maxLen w (len + (n + 1)) cap ty (by unfold maxLen; omega)
                      generalize grownCap w (len + (n + 1)) cap ty = cap' at *
                      generalize hcur : (cs.toList.take (len * sz')).toArray ++ news.toArray ++ Builtin.zeroCells z.cells (cap' - (len + (n + 1))) = cur at hrun
                      have hcurs : cur.size = cap' * sz' := by
                        rw [← hcur]
                        simp only [Array.size_append, List.size_toArray, size_zeroCells, hzs, hnl, htake, ← Nat.add_mul]
                        congr 1
                        omega
                      have hst := Step.put H (h1 := h.set ob .dead) (w' := w.drew.alloc (.cells cur ty)) (.box ty (cells.take (len * sz') ++ new)) w.heap.size cap' sz'
                        ⟨cur, heap_alloc_new w.drew _, by rw [withBox_Z, withBox_E]; exact ⟨hcurs, hcm⟩, by
                          rw [hlall, ← hcur]
                          have e5 : ((cs.toList.take (len * sz')).toArray ++ news.toArray ++ Builtin.zeroCells z.cells (cap' - (len + (n + 1)))).toList = (cs.toList.take (len * sz') ++ news) ++ (Builtin.zeroCells z.cells (cap' - (len + (n + 1)))).toList := by simp
                          rw [e5, List.take_left]
                          exact hvall.mono (Ext.withBox (H.fresh _ (Nat.le_refl _)) (fun i hi => by have := H.lt i _ hi; omega))⟩
                        (by simp) (Frm.drewAlloc _ _ _)
                        (fun o => H.noM (Nat.le_refl _) o) hsetlen (fun j x hj hl => by
                          obtain ⟨h2, h3⟩ := hlive j x hj hl
                          exact ⟨h2, fun e => by have := H.lt j _ e; omega⟩)
                        (fun i hi => by have := H.lt i _ hi; omega) (.inl (Nat.le_refl _))
                      refine ⟨_, _, _, _, exec_append ha hts ho hrun, .inl rfl, .sl _ 0 _ sz' w.heap.size cap' 0 (withBox_mu _ _ _ _ _) (withBox_E _ _ _ _ _) hge (by rw [withBox_Z]; omega) (fun _ => by omega), hst, Frm.drewAlloc _ _ _⟩
                · cases hq
              · cases hq
            · split at hq
              · rename_i hcond
                obtain ⟨hnil, _, hmx, hbt⟩ := hcond
                cases hq
                have hse := isNil_sound hs hnil
                have hrun := run_append_nil (P := P) w t o.type e i z hu hi hiz ad (n + 1) capx news (by rw [his]; exact hnl) hncell (by omega) (by omega) (by rw [hib]; omega)
                rw [← hse, ← hxe] at hrun
                have hge := grownCap_ge w (n + 1) 0 e
                have hcm := grownCap_le_maxLen w (n + 1) 0 e (by unfold maxLen; omega)
                generalize grownCap w (n + 1) 0 e = cap at *
                generalize hcur : news.toArray ++ Builtin.zeroCells z.cells (cap - (n + 1)) = cur at hrun
                have hcurs : cur.size = cap * sz := by
                  rw [← hcur]
                  simp only [Array.size_append, List.size_toArray, size_zeroCells, hzs, hnl, ← Nat.add_mul]
                  congr 1
                  omega
                have hst := Step.fresh H (w' := w.drew.alloc (.cells cur e)) (.box e new) cap sz (.cells cur e) rfl (Frm.drewAlloc _ _ _) (fun hx => ⟨cur, heap_alloc_new w.drew _, by
                  rw [withBox_Z, withBox_E]; exact ⟨hcurs, hcm⟩, by
                  rw [hvn.1, ← hcur]
                  have e5 : (news.toArray ++ Builtin.zeroCells z.cells (cap - (n + 1))).toList = news ++ (Builtin.zeroCells z.cells (cap - (n + 1))).toList := by simp
                  rw [e5, List.take_left]
                  exact hvn.mono hx⟩)
                exact ⟨_, _, _, _, exec_append ha hts ho hrun, .inl rfl, .sl _ 0 _ sz w.heap.size cap 0 (withBox_mu _ _ _ _ _) (withBox_E _ _ _ _ _) hge (by rw [withBox_Z]; omega) (fun _ => by omega), hst, Frm.drewAlloc _ _ _⟩
              · cases hq
          · cases hq
        · cases hq
      · cases hq
    · cases hq
  · cases hq
theorem emBsl_sound (H : WR K h w) (hρ : ∀ x v, ρA x = some v → VR K v (ρ x)) {t : TypeId} {len : Nat} {parts : Array (Nat × Operand)} (ho : o.op = .buildSlice t len parts) {v : AV} {h' : List AObj} {touch : List Nat} (hq : emBsl P ρA h t len parts = some (v, h', touch)) : Eff P o ρ K h w v h' touch := by
  unfold emBsl at hq
  split at hq
  · rename_i ps hps
    split at hq
    · rename_i e s out hb
      cases hq
      unfold bslM at hb
      split at hb
      · rename_i e' hu
        split at hb
        · rename_i zc s' hz hs
          split at hb
          · rename_i hc
            split at hb
            · rename_i out' hf
              cases hb
              obtain ⟨ie, z, hi, hiz, hvz⟩ := zeroA_sound (K := K) hz
              obtain ⟨h1, h2⟩ := partsA_sound hρ _ _ hps
              have hies : ie.size = s := by unfold szA at hs; rw [hi] at hs; simpa using hs
              obtain ⟨us, hfill, hvu⟩ := fillA_sound _ ps (evParts ρ parts.toList) _ ((Array.range (len * s)).map (z.cells[· % z.cells.size]!)) out (zerosA_sound hvz (by omega) _) h1 h2 hf
              have hout : ∀ (ps : List (Nat × AV)) (cells out : List AV), fillA (fun i => some (i * s, s)) cells ps = some out → out.length = cells.length := by
                intro ps
                induction ps with
                | nil => intro cells out hf; cases hf; rfl
                | cons q ps ih =>
                  intro cells out hf
                  obtain ⟨qi, qv⟩ := q
                  simp only [fillA] at hf
                  split at hf
                  · cases hf
                  · rename_i hcond
                    rw [ih _ _ hf]
                    simp [setAt]
                    omega
              have hol := hout _ _ _ hf
              have hzl : (zerosA zc (len * s)).length = len * s := by simp [zerosA]
              have husz : us.size = len * s := by have := hvu.1; simp at this; omega
              have hlen : len ≤ 16777216 := Nat.le_trans (Nat.le_mul_of_pos_right len hc.1) hc.2.2
              have hrun : (execOp ρ o).run P w = .ok (.value (.slice (some ⟨w.heap.size, 0, none⟩) len len)) (w.alloc (.cells us e)) := by
                have hp' : (parts.map fun (i, x) => (i, ρ x)).toList = evParts ρ parts.toList := by simp [evParts]
                by_cases h0 : len * s = 0
                · have hl0 : len = 0 := by
                    rcases Nat.mul_eq_zero.1 h0 with h0 | h0
                    · exact h0
                    · omega
                  subst hl0
                  have e0 : ∀ f : Nat → Value, (Array.range (0 * s)).map f = #[] := fun f => by apply Array.ext'; simp
                  rw [e0] at hfill
                  simp only [execOp, ho, Instr.buildSlice, Sem.run_bind, run_underlying hu, Result.andThen_ok, szA_run hs]
                  rw [if_neg (by simp), if_pos (by simp)]
                  simp only [Sem.run_bind, Sem.run_pure, Result.andThen_ok, e0, hp', hfill]
                  simp [newRow]
                · have := run_buildSlice (P := P) w t e len (parts.map fun (i, x) => (i, ρ x)) us ie z hu hi hiz (by rw [hies]; have := hc.2.2; omega) (by rw [hies]; exact h0) (by rw [hies, hp']; exact hfill)
                  simp only [execOp, ho, Sem.run_bind, this, Result.andThen_ok, Sem.run_pure]
              have hst := Step.fresh H (w' := w.alloc (.cells us e)) (.box e out) len s (.cells us e) rfl (Frm.alloc _ _ _) (fun hx => ⟨us, heap_alloc_new w _, by
                rw [withBox_Z, withBox_E]; exact ⟨husz, by unfold maxLen; omega⟩, by
                rw [hvu.1, List.take_length]; exact hvu.mono hx⟩)
              exact ⟨_, _, _, _, hrun, .inl rfl, .sl _ 0 _ s w.heap.size len 0 (withBox_mu _ _ _ _ _) (withBox_E _ _ _ _ _) (Nat.le_refl _) (by rw [withBox_Z]; omega) (fun _ => by omega), hst, Frm.alloc _ _ _⟩
            · cases hb
          · cases hb
        · cases hb
      · cases hb
    · cases hq
  · cases hq
theorem exec_clear {args : Array Operand} {x : Operand} (ha : args.toList = [x]) {t : TypeId} {ts : Array TypeId} (hts : ts.toList = [t]) (ho : o.op = .call ⟨.builtin .clear, args, ts⟩) {v : Value} {w' : World}
    (hr : (Builtin.clear_ #[t] o.type #[ρ x]).run P w = .ok v w') : (execOp ρ o).run P w = .ok (.value v) w' := by
  have e1 : args = #[x] := by rw [← Array.toArray_toList (xs := args), ha]
  have e2 : ts = #[t] := by rw [← Array.toArray_toList (xs := ts), hts]
  subst e1
  subst e2
  simp only [execOp, ho, resolve, invoke, builtin, Sem.run_bind, Sem.run_pure, Result.andThen_ok, List.map_toArray, List.map_cons, List.map_nil, hr]
theorem emClear_sound (H : WR K h w) {args : Array Operand} {x : Operand} (ha : args.toList = [x]) {t : TypeId} {ts : Array TypeId} (hts : ts.toList = [t]) (ho : o.op = .call ⟨.builtin .clear, args, ts⟩)
    {xA : AV} (hx : VR K xA (ρ x)) {v : AV} {h' : List AObj} {touch : List Nat} (hq : emClear P h t xA = some (v, h', touch)) : Eff P o ρ K h w v h' touch := by
  unfold emClear at hq
  split at hq
  · rename_i e hu
    split at hq
    · cases hq
      have hxe : ρ x = .slice none 0 0 := val_eq hx rfl
      refine ⟨_, .tuple #[], w, K, exec_clear ha hts ho (v := .tuple #[]) ?_, .inl rfl, VR.undef K, Step.refl H, Frm.refl _ _⟩
      rw [hxe]
      simp [Builtin.clear_, run_underlying hu]
    · cases hq
      generalize hxe : ρ x = xv at hx
      cases hx with
      | sl _ _ _ _ g cap off hm he hl hz hof =>
        refine ⟨_, .tuple #[], w, K, exec_clear ha hts ho (v := .tuple #[]) ?_, .inl rfl, VR.undef K, Step.refl H, Frm.refl _ _⟩
        rw [hxe]
        simp [Builtin.clear_, run_underlying hu]
    · rename_i ob lo n sz
      split at hq
      · rename_i ty cells zc hob hz
        split at hq
        · rename_i hc
          cases hq
          obtain ⟨hc1, hc2, hc3, hc4⟩ := hc
          obtain ⟨i, z, hi, hiz, hvz⟩ := zeroA_sound (K := K) hz
          have hzs : z.cells.size = sz := by have := hvz.1; simp at this; omega
          obtain ⟨g, cs, hm, hw, hsz, hvl⟩ := H.box ob ty cells hob
          have hcl : cells.length ≤ cs.size := by have := hvl.1; simp at this; omega
          generalize hxe : ρ x = xv at hx
          cases hx with
          | sl _ _ _ _ g' cap off hm' he hl hz' hof =>
            rw [hm] at hm'
            cases hm'
            have hof := hof (by omega)
            subst hof
            have hzv := zerosA_sound hvz (by omega) ((n + 1) * sz)
            have hze : (Array.range ((n + 1) * sz)).map (z.cells[· % z.cells.size]!) = Builtin.zeroCells z.cells (n + 1) := by
              unfold Builtin.zeroCells; rw [hzs]
            rw [hze] at hzv
            have hzl : (Builtin.zeroCells z.cells (n + 1)).toList.length = (n + 1) * sz := by rw [← hzv.1]; simp [zerosA]
            have hcell : (zerosA zc ((n + 1) * sz)).all AV.isCell = true := by
              rw [List.all_eq_true] at hc4 ⊢
              intro y hy
              simp only [zerosA, List.mem_map, List.mem_range] at hy
              obtain ⟨k, hk, rfl⟩ := hy
              have hk2 : k % zc.length < zc.length := Nat.mod_lt _ hc1
              have e1 : zc.getD (k % zc.length) (.tup []) = zc[k % zc.length] := by simp [List.getD, List.getElem?_eq_getElem hk2]
              rw [e1]
              exact hc4 _ (List.getElem_mem hk2)
            have hst := run_storeCells_at P g (lo * sz) ty (Builtin.zeroCells z.cells (n + 1)).toList 0 cs w hw (by rw [hzl]; omega) (all_cell hzv hcell)
            simp only [Nat.add_zero] at hst
            have hzr : (zeroValue e).run P w = .ok z w := by simp [zeroValue, typeInfo, hi, hiz]
            refine ⟨_, .tuple #[], w.setRow g (setAt cs.toList (lo * sz) (Builtin.zeroCells z.cells (n + 1)).toList).toArray, K, exec_clear ha hts ho (v := .tuple #[]) ?_, .inl rfl, VR.undef K, ?_, ?_⟩
            · rw [hxe]
              have hst' : (storeCells ⟨g, lo * sz, none⟩ (Builtin.zeroCells z.cells (n + 1)).toList).run P w = .ok () (w.setRow g (setAt cs.toList (lo * sz) (Builtin.zeroCells z.cells (n + 1)).toList).toArray) := by
                rw [hst]; simp [setAt]
              simp [Builtin.clear_, run_underlying hu, hzr, hst']
            · refine Step.store H ob (.box ty cells) (.box ty (setAt cells (lo * sz) (zerosA zc ((n + 1) * sz)))) g hob rfl rfl hm ⟨_, setRow_heap w g cs _ ty _ hw, ⟨?_, hsz.2⟩, ?_⟩ (fun o => H.apart ob ty cells g hob hm o) ⟨rfl, rfl, rfl, by simp [World.setRow], fun k _ hk => setRow_other w g k _ hk⟩ (by simp [World.setRow]) (fun k hk => setRow_other w g k _ hk)
              · rw [← hsz.1]; simp only [setAt, List.size_toArray, List.length_append, List.length_take, List.length_drop, hzl, Array.length_toList]; omega
              · have h1 := hvl.setAt hzv (lo * sz)
                have hzl2 : (zerosA zc ((n + 1) * sz)).length = (n + 1) * sz := by simp [zerosA]
                have h2 : (setAt cells (lo * sz) (zerosA zc ((n + 1) * sz))).length = cells.length := by simp only [setAt, List.length_append, List.length_take, List.length_drop, hzl2]; omega
                rw [h2]
                show VL K _ (List.take cells.length (setAt cs.toList (lo * sz) (Builtin.zeroCells z.cells (n + 1)).toList))
                rw [take_setAt _ _ _ _ (by rw [hzl]; exact hc3) (by simpa using hcl)]
                exact h1
            · exact ⟨rfl, rfl, rfl, by simp [World.setRow], fun k hk hs => setRow_other w g k _ (fun e => hs ⟨ob, _, by simp, hob, rfl, by rw [e]; exact hm⟩)⟩
        · cases hq
      · cases hq
    · cases hq
  · cases hq
theorem run_append_zeros (t it ty e : TypeId) (k : IntKind) (i : TypeInfo) (z : Value) (ht : P.underlying t = some (.slice e)) (hit : P.underlying it = some (.int k)) (hi : P.info? e = some i) (hz : i.zero = some z) (k' : IntKind) (n : Nat) (hp : 0 < n * i.size)
    (h0 : 0 < n) (h63 : n ≤ 1000000) (h48 : n * i.bytes ≤ 140737488355328) (w : World) :
    (Builtin.append_ #[t, it] ty #[.slice none 0 0, .int k' (n : Int)]).run P w =
      .ok (.slice (some ⟨w.heap.size, 0, none⟩) n (grownCap w n 0 e)) (w.drew.alloc (.cells (Builtin.zeroCells z.cells n ++ Builtin.zeroCells z.cells (grownCap w n 0 e - n)) e)) := by
  have hn : n ≠ 0 := by omega
  have hns : ¬ (n * i.size = 0) := by omega
  have hneg : ¬ ((n : Int) < 0) := by omega
  have hw : IntKind.i64.wrap (n : Int) = (n : Int) := by
    unfold IntKind.wrap
    simp [IntKind.signed, IntKind.bits]
    omega
  have h63' : ¬ (9223372036854775807 < (n : Int)) := by omega
  have h48' : ¬ (281474976710656 < Builtin.nextslicecap n 0 * i.bytes) := by rw [nextslicecap_zero h0]; omega
  have h48'' : ¬ (281474976710656 < (n : Int) * (i.bytes : Int)) := by
    have : ((n * i.bytes : Nat) : Int) ≤ 140737488355328 := by omega
    rw [Int.natCast_mul] at this
    omega
  simp [Builtin.append_, run_underlying ht, run_underlying hit, sizeOf, typeInfo, zeroValue, hi, hz, asInt, asIntOf, hw, hn, hns, hneg, h63', h48', h48'', Question.forced, run_firstCells_none, newRow, grownCap]
theorem emZero_sound (H : WR K h w) {args : Array Operand} {s x : Operand} (ha : args.toList = [s, x]) {t it : TypeId} {ts : Array TypeId} (hts : ts.toList = [t, it]) (ho : o.op = .call ⟨.builtin .append, args, ts⟩)
    {sA xA : AV} (hs : VR K sA (ρ s)) (hx : VR K xA (ρ x)) {v : AV} {h' : List AObj} {touch : List Nat} (hq : emZero P h t it sA xA = some (v, h', touch)) : Eff P o ρ K h w v h' touch := by
  unfold emZero at hq
  split at hq
  · rename_i e k n hu hit hn
    split at hq
    · rename_i sz by_ zc hsz hby hz
      split at hq
      · rename_i hc
        cases hq
        obtain ⟨hnil, hc1, hc2, hc3, hc4, hc5⟩ := hc
        obtain ⟨i, z, hi, hiz, hvz⟩ := zeroA_sound (K := K) hz
        have his : i.size = sz := by unfold szA at hsz; rw [hi] at hsz; simpa using hsz
        have hib : i.bytes = by_ := by unfold bytesA at hby; rw [hi] at hby; simpa using hby
        have hzs : z.cells.size = sz := by have := hvz.1; simp at this; omega
        have hse := isNil_sound hs hnil
        obtain ⟨k', hxe⟩ := intV_sound hx hn
        have hnn : ((n.toNat : Nat) : Int) = n := by omega
        have hrun := run_append_zeros (P := P) t it o.type e k i z hu hit hi hiz k' n.toNat (by rw [his]; exact Nat.mul_pos (by omega) hc1) (by omega) (by omega) (by rw [hib]; exact hc5) w
        rw [hnn] at hrun
        have hge := grownCap_ge w n.toNat 0 e
        have hcm := grownCap_le_maxLen w n.toNat 0 e (by unfold maxLen; omega)
        generalize grownCap w n.toNat 0 e = cap at *
        have hzv := zerosA_sound hvz (by omega) (n.toNat * sz)
        have hze : (Array.range (n.toNat * sz)).map (z.cells[· % z.cells.size]!) = Builtin.zeroCells z.cells n.toNat := by unfold Builtin.zeroCells; rw [hzs]
        rw [hze] at hzv
        generalize hcur : Builtin.zeroCells z.cells n.toNat ++ Builtin.zeroCells z.cells (cap - n.toNat) = cur at hrun
        have hcurs : cur.size = cap * sz := by
          rw [← hcur]
          simp only [Array.size_append, size_zeroCells, hzs, ← Nat.add_mul]
          congr 1
          omega
        have hst := Step.fresh H (w' := w.drew.alloc (.cells cur e)) (.box e (zerosA zc (n.toNat * sz))) cap sz (.cells cur e) rfl (Frm.drewAlloc _ _ _) (fun hx => ⟨cur, heap_alloc_new w.drew _, by
          rw [withBox_Z, withBox_E]; exact ⟨hcurs, hcm⟩, by
          rw [hzv.1, ← hcur]
          have e5 : (Builtin.zeroCells z.cells n.toNat ++ Builtin.zeroCells z.cells (cap - n.toNat)).toList = (Builtin.zeroCells z.cells n.toNat).toList ++ (Builtin.zeroCells z.cells (cap - n.toNat)).toList := by simp
          rw [e5, List.take_left]
          exact hzv.mono hx⟩)
        have e1 : args = #[s, x] := by rw [← Array.toArray_toList (xs := args), ha]
        have e2 : ts = #[t, it] := by rw [← Array.toArray_toList (xs := ts), hts]
        subst e1
        subst e2
        refine ⟨_, _, _, _, ?_, .inl rfl, .sl _ 0 _ sz w.heap.size cap 0 (withBox_mu _ _ _ _ _) (withBox_E _ _ _ _ _) hge (by rw [withBox_Z]; omega) (fun _ => by omega), hst, Frm.drewAlloc _ _ _⟩
        simp only [execOp, ho, resolve, invoke, builtin, Sem.run_bind, Sem.run_pure, Result.andThen_ok, List.map_toArray, List.map_cons, List.map_nil, hse, hxe, hrun]
      · cases hq
    · cases hq
  · cases hq
theorem opsA_one (hρ : ∀ x v, ρA x = some v → VR K v (ρ x)) {args : Array Operand} {a : AV} (hq : opsA ρA args.toList = some [a]) : ∃ x, args.toList = [x] ∧ VR K a (ρ x) := by
  match hl : args.toList, hq with
  | [], hq => simp [opsA] at hq
  | [x], hq =>
    simp only [opsA] at hq
    split at hq
    · rename_i v r hv hr
      cases hr
      cases hq
      exact ⟨x, rfl, hρ x _ hv⟩
    · cases hq
  | x :: y :: l, hq =>
    simp only [opsA] at hq
    split at hq
    · rename_i v r hv hr
      cases hq
      split at hr
      · cases hr
      · cases hr
    · cases hq
theorem opsA_two (hρ : ∀ x v, ρA x = some v → VR K v (ρ x)) {args : Array Operand} {a b : AV} (hq : opsA ρA args.toList = some [a, b]) : ∃ x y, args.toList = [x, y] ∧ VR K a (ρ x) ∧ VR K b (ρ y) := by
  match hl : args.toList, hq with
  | [], hq => simp [opsA] at hq
  | [x], hq =>
    simp only [opsA] at hq
    split at hq
    · rename_i v r hv hr
      cases hr
      cases hq
    · cases hq
  | [x, y], hq =>
    simp only [opsA] at hq
    split at hq
    · rename_i v r hv hr
      cases hq
      split at hr
      · rename_i v2 r2 hv2 hr2
        cases hr2
        cases hr
        exact ⟨x, y, rfl, hρ x _ hv, hρ y _ hv2⟩
      · cases hr
    · cases hq
  | x :: y :: z :: l, hq =>
    simp only [opsA] at hq
    split at hq
    · rename_i v r hv hr
      cases hq
      split at hr
      · rename_i v2 r2 hv2 hr2
        cases hr
        split at hr2
        · cases hr2
        · cases hr2
      · cases hr
    · cases hq
theorem eopM_sound (H : WR K h w) (hρ : ∀ x v, ρA x = some v → VR K v (ρ x)) {v : AV} {h' : List AObj} {touch : List Nat} (hq : eopM P o.op ρA h = some (v, h', touch)) : Eff P o ρ K h w v h' touch := by
  unfold eopM at hq
  split at hq
  · rename_i ho; exact emMap_sound H ho hq
  · rename_i ho; exact emUpd_sound H hρ (.inl ho) hq
  · rename_i ho; exact emUpd_sound H hρ (.inr ho) hq
  · rename_i ho; exact emMake_sound H hρ ho hq
  · rename_i args ts ho
    split at hq
    · rename_i s x t t' hop hts
      split at hq
      · rename_i e
        subst e
        obtain ⟨so, xo, ha, hs, hx⟩ := opsA_two hρ hop
        exact emApp_sound H ha hts ho hs hx hq
      · obtain ⟨so, xo, ha, hs, hx⟩ := opsA_two hρ hop
        exact emZero_sound H ha hts ho hs hx hq
    · cases hq
  · rename_i args ts ho
    split at hq
    · rename_i x t hop hts
      obtain ⟨xo, ha, hx⟩ := opsA_one hρ hop
      exact emClear_sound H ha hts ho hx hq
    · cases hq
  · cases hq
theorem eopB_sound (H : WR K h w) (hρ : ∀ x v, ρA x = some v → VR K v (ρ x)) {v : AV} {h' : List AObj} {touch : List Nat} (hq : eopB P o.op ρA h = some (v, h', touch)) : Eff P o ρ K h w v h' touch := by
  unfold eopB at hq
  split at hq
  · rename_i ho; exact emBsl_sound H hρ ho hq
  · cases hq
end
end Go.Proofs.Ytnepapfndihalaa
