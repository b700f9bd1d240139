/- A part of the heap, handed to a callee, and taken back. -/
import Derived.Test.YtjpjcjnacnlhdaaGreatAb12
namespace Go.Proofs.YtjpjcjnacnlhdaaGreat
open Go.RowKit

def posOf (i : Nat) : List Nat → Option Nat
  | [] => none
  | x :: l => if x = i then some 0 else (posOf i l).map (· + 1)
theorem posOf_some {i : Nat} : ∀ {l : List Nat} {j : Nat}, posOf i l = some j → l[j]? = some i
  | [], j, h => by cases h
  | x :: l, j, h => by
    rw [posOf] at h
    split at h
    · rename_i e; cases h; subst e; rfl
    · obtain ⟨k, hk, e⟩ := map_some' h
      subst e
      simpa using posOf_some hk
def nodupB : List Nat → Bool
  | [] => true
  | x :: l => !(l.elem x) && nodupB l
theorem nodupB_inj : ∀ {l : List Nat}, nodupB l = true → ∀ {i j x : Nat}, l[i]? = some x → l[j]? = some x → i = j
  | [], _, i, j, x, h, _ => by simp at h
  | y :: l, h, i, j, x, hi, hj => by
    rw [nodupB, Bool.and_eq_true] at h
    have hn : ∀ k : Nat, l[k]? = some y → False := by
      intro k hk
      have := List.mem_of_getElem? hk
      simp [this] at h
    cases i with
    | zero =>
      cases j with
      | zero => rfl
      | succ j => simp at hi hj; subst hi; exact (hn j hj).elim
    | succ i =>
      cases j with
      | zero => simp at hi hj; subst hj; exact (hn i hi).elim
      | succ j => simp at hi hj; rw [nodupB_inj h.2 hi hj]
/-- What is known, by the names of a part. -/
def Kn.sub (K : Kn) (ids : List Nat) : Kn := { K with mu := fun k => (ids[k]?).bind K.mu }
theorem sub_mu {K : Kn} {ids : List Nat} {k g : Nat} (h : (K.sub ids).mu k = some g) : ∃ i, ids[k]? = some i ∧ K.mu i = some g := by
  change (ids[k]?).bind K.mu = some g at h
  cases hi : ids[k]? with
  | none => rw [hi] at h; cases h
  | some i => rw [hi] at h; exact ⟨i, rfl, h⟩
theorem mu_sub {K : Kn} {ids : List Nat} {k i : Nat} (h : ids[k]? = some i) : (K.sub ids).mu k = K.mu i := by
  show (ids[k]?).bind K.mu = K.mu i
  rw [h]; rfl
theorem Ren.sub (K : Kn) (ids : List Nat) : Ren (fun i => posOf i ids) K (K.sub ids) :=
  ⟨rfl, rfl, rfl, rfl, fun i j g hf hm => by rw [mu_sub (posOf_some hf)]; exact hm⟩
/-- The part of the heap with these names. -/
def subH (h : List AObj) (ids : List Nat) : Option (List AObj) := match pickH h ids with
  | some r => renH (fun i => posOf i ids) r
  | none => none
theorem subH_spec {h : List AObj} {ids : List Nat} {hs : List AObj} (hh : subH h ids = some hs) : hs.length = ids.length ∧ ∀ (k : Nat) y, hs[k]? = some y → ∃ i x, ids[k]? = some i ∧ h[i]? = some x ∧ renO (fun i => posOf i ids) x = some y := by
  unfold subH at hh
  split at hh
  · rename_i r hr
    refine ⟨by rw [renH_len hh, pickH_len hr], fun k y hy => ?_⟩
    obtain ⟨x, hx, hxy⟩ := renH_at hh k y hy
    obtain ⟨i, hi, hix⟩ := pickH_at hr k x hx
    exact ⟨i, x, hi, hix, hxy⟩
  · cases hh
theorem subH_all {h : List AObj} {ids : List Nat} {hs : List AObj} (hh : subH h ids = some hs) {k i : Nat} (hk : ids[k]? = some i) : i < h.length := by
  obtain ⟨hl, hs'⟩ := subH_spec hh
  have hlt : k < hs.length := by
    rw [hl]
    by_cases hlt : k < ids.length
    · exact hlt
    · rw [List.getElem?_eq_none (by omega)] at hk; cases hk
  obtain ⟨i', x, hi, hx, _⟩ := hs' k hs[k] (List.getElem?_eq_getElem hlt)
  rw [hk] at hi
  cases hi
  by_cases hlt : i < h.length
  · exact hlt
  · rw [List.getElem?_eq_none (by omega)] at hx; cases hx
theorem WR.sub {K : Kn} {h : List AObj} {w : World} (H : WR K h w) {ids : List Nat} {hs : List AObj} (hn : nodupB ids = true) (hh : subH h ids = some hs) : WR (K.sub ids) hs w := by
  obtain ⟨hl, hsp⟩ := subH_spec hh
  have R := Ren.sub K ids
  refine ⟨fun k hk => ?_, fun k hk => ?_, fun k g hk => ?_, fun k ty cells hk => ?_, fun k ks vs hk => ?_, fun k ty sz len hk => ?_, fun a b x y g ha hb hlx hly hma hmb => ?_, fun k ty cells g hk hm o => ?_, H.agr⟩
  · show (ids[k]?).bind K.mu = none
    rw [List.getElem?_eq_none (by omega)]; rfl
  · have hk' : k < ids.length := by omega
    have e := List.getElem?_eq_getElem hk'
    obtain ⟨g, hg⟩ := H.has _ (subH_all hh e)
    exact ⟨g, by rw [mu_sub e]; exact hg⟩
  · obtain ⟨i, _, hm⟩ := sub_mu hk
    exact H.lt i g hm
  · obtain ⟨i, x, hi, hx, hxy⟩ := hsp k _ hk
    cases x with
    | box ty' c =>
      rw [renO] at hxy
      obtain ⟨l', hl', e⟩ := map_some' hxy
      cases e
      obtain ⟨g, cs, hm, hw, hs, hv⟩ := H.box i ty c hx
      exact ⟨g, cs, by rw [mu_sub hi]; exact hm, hw, hs, renL_sound R (by rw [renL_len hl']; exact hv) hl'⟩
    | tok => rw [renO] at hxy; cases hxy
    | dead => rw [renO] at hxy; cases hxy
    | mp => rw [renO] at hxy; obtain ⟨l', hl', e⟩ := map_some' hxy; cases e
  · obtain ⟨i, x, hi, hx, hxy⟩ := hsp k _ hk
    cases x with
    | mp ks' vs' =>
      rw [renO] at hxy
      obtain ⟨l', hl', e⟩ := map_some' hxy
      cases e
      obtain ⟨g, ents, clock, hm, hw, hv⟩ := H.map i ks vs' hx
      exact ⟨g, ents, clock, by rw [mu_sub hi]; exact hm, hw, hv.1, renL_sound R hv.2 hl'⟩
    | box ty' c => rw [renO] at hxy; obtain ⟨l', hl', e⟩ := map_some' hxy; cases e
    | tok => rw [renO] at hxy; cases hxy
    | dead => rw [renO] at hxy; cases hxy
  · obtain ⟨i, x, hi, hx, hxy⟩ := hsp k _ hk
    cases x with
    | box ty' c => rw [renO] at hxy; obtain ⟨l', hl', e⟩ := map_some' hxy; cases e
    | tok ty' sz' len' =>
      rw [renO] at hxy
      cases hxy
      obtain ⟨g, cs, hm, rest⟩ := H.tok i ty sz len hx
      exact ⟨g, cs, by rw [mu_sub hi]; exact hm, rest⟩
    | dead => rw [renO] at hxy; cases hxy
    | mp => rw [renO] at hxy; obtain ⟨l', hl', e⟩ := map_some' hxy; cases e
  · obtain ⟨i, x', hi, hx, hxy⟩ := hsp a _ ha
    obtain ⟨j, y', hj, hy, hyy⟩ := hsp b _ hb
    rw [mu_sub hi] at hma
    rw [mu_sub hj] at hmb
    have := H.inj i j x' y' g hx hy (by rw [← renO_live hxy]; exact hlx) (by rw [← renO_live hyy]; exact hly) hma hmb
    subst this
    exact nodupB_inj hn hi hj
  · obtain ⟨i, x, hi, hx, hxy⟩ := hsp k _ hk
    rw [mu_sub hi] at hm
    cases x with
    | box ty' c => exact H.apart i ty' c g hx hm o
    | tok => rw [renO] at hxy; cases hxy
    | dead => rw [renO] at hxy; cases hxy
    | mp => rw [renO] at hxy; obtain ⟨l', hl', e⟩ := map_some' hxy; cases e
theorem liveB_sub {K : Kn} {h : List AObj} {ids : List Nat} {hs : List AObj} (hh : subH h ids = some hs) {b : Nat} (hb : (K.sub ids).liveB hs b) : ∃ (k i : Nat) (x : AObj), ids[k]? = some i ∧ h[i]? = some x ∧ x.live = true ∧ K.mu i = some b := by
  obtain ⟨k, y, hk, hl, hm⟩ := hb
  obtain ⟨i, x, hi, hx, hxy⟩ := (subH_spec hh).2 k y hk
  exact ⟨k, i, x, hi, hx, by rw [← renO_live hxy]; exact hl, by rw [mu_sub hi] at hm; exact hm⟩
/-- What is left of a heap at the end: the first objects, as they were, and some others. -/
theorem Step.sub {K K' : Kn} {h h' : List AObj} {w w' : World} (H : WR K h w) (S : Step K h w K' h' w') {ids : List Nat} {hs : List AObj} (hn : nodupB ids = true) (hh : subH h' ids = some hs)
    (hpre : ∀ k, k < h.length → ids[k]? = some k) : Step K h w (K'.sub ids) hs w' := by
  have hlen : h.length ≤ ids.length := by
    cases hl : h.length with
    | zero => omega
    | succ n =>
      have := hpre n (by omega)
      by_cases hlt : n < ids.length
      · omega
      · rw [List.getElem?_eq_none (by omega)] at this; cases this
  have hsl := (subH_spec hh).1
  have hdef : ∀ i g, K.mu i = some g → i < h.length := by
    intro i g hi
    by_cases hlt : i < h.length
    · exact hlt
    · rw [H.fresh i (by omega)] at hi; cases hi
  refine ⟨S.wr.sub hn hh, ⟨S.ext.M, fun i g hi => ?_, S.ext.Z, S.ext.E, S.ext.R⟩, S.frm, S.zs, S.ms, fun k b hk => ?_, fun b hb hlt => ?_, by omega⟩
  · rw [mu_sub (hpre i (hdef i g hi))]; exact S.ext.mu i g hi
  · obtain ⟨i, hi, hm⟩ := sub_mu hk
    rcases S.mu i b hm with h1 | h1
    · have := nodupB_inj hn hi (hpre i (hdef i b h1))
      subst this
      exact .inl h1
    · exact .inr h1
  · obtain ⟨k, i, x, hi, hx, hl, hm⟩ := liveB_sub hh hb
    exact S.live b ⟨i, x, hx, hl, hm⟩ hlt

/-- The objects of a part, laid back. -/
def overlay (h : List AObj) : List Nat → List AObj → List AObj
  | i :: ids, x :: l => overlay (h.set i x) ids l
  | _, _ => h
theorem overlay_len : ∀ (ids : List Nat) (l : List AObj) (h : List AObj), (overlay h ids l).length = h.length
  | [], l, h => by simp [overlay]
  | i :: ids, [], h => by simp [overlay]
  | i :: ids, x :: l, h => by rw [overlay, overlay_len ids l]; simp
theorem overlay_at : ∀ (ids : List Nat) (l : List AObj) (h : List AObj), nodupB ids = true → ids.length ≤ l.length → ∀ (i : Nat) y, (overlay h ids l)[i]? = some y →
    (∃ k : Nat, ids[k]? = some i ∧ l[k]? = some y) ∨ ((∀ k : Nat, ids[k]? ≠ some i) ∧ h[i]? = some y)
  | [], l, h, _, _, i, y, hy => by
    have e : overlay h [] l = h := by simp [overlay]
    rw [e] at hy
    exact .inr ⟨fun k => by simp, hy⟩
  | j :: ids, [], h, _, hl, i, y, hy => by simp at hl
  | j :: ids, x :: l, h, hn, hl, i, y, hy => by
    rw [overlay] at hy
    have hn2 := hn
    rw [nodupB, Bool.and_eq_true] at hn2
    rcases overlay_at ids l (h.set j x) hn2.2 (by simpa using hl) i y hy with ⟨k, h1, h2⟩ | ⟨h1, h2⟩
    · exact .inl ⟨k + 1, by simpa using h1, by simpa using h2⟩
    · rw [List.getElem?_set] at h2
      by_cases e : j = i
      · subst e
        rw [if_pos rfl] at h2
        split at h2
        · cases h2; exact .inl ⟨0, rfl, rfl⟩
        · cases h2
      · rw [if_neg e] at h2
        refine .inr ⟨fun k => ?_, h2⟩
        cases k with
        | zero => simpa using e
        | succ k => simpa using h1 k
def backF (ids : List Nat) (n : Nat) (k : Nat) : Option Nat := match ids[k]? with
  | some i => some i
  | none => some (n + (k - ids.length))
def Kn.merge (K Ks : Kn) (ids : List Nat) (n : Nat) : Kn := { Ks with mu := fun i => if i < n then K.mu i else Ks.mu (ids.length + (i - n)) }
/-- The heap behind a call. -/
def mergeH (h : List AObj) (ids : List Nat) (hs' : List AObj) : Option (List AObj) := match renH (backF ids h.length) hs' with
  | some hb => some (overlay h ids hb ++ hb.drop ids.length)
  | none => none
theorem merge_sound {K Ks : Kn} {h hs hs' h' : List AObj} {w w' : World} {ids : List Nat} (H : WR K h w) (hn : nodupB ids = true) (hh : subH h ids = some hs) (S : Step (K.sub ids) hs w Ks hs' w') (hm : mergeH h ids hs' = some h') :
    Step K h w (K.merge Ks ids h.length) h' w' ∧ Ren (backF ids h.length) Ks (K.merge Ks ids h.length) ∧ Frm (K.at h ids) w w' := by
  unfold mergeH at hm
  split at hm
  · rename_i hb hrb
    cases hm
    have hsl := (subH_spec hh).1
    have hbl := renH_len hrb
    have hle := S.len
    have hmu1 : ∀ i, i < h.length → (K.merge Ks ids h.length).mu i = K.mu i := fun i hi => by show (if i < h.length then _ else _) = _; rw [if_pos hi]
    have hmu2 : ∀ i, h.length ≤ i → (K.merge Ks ids h.length).mu i = Ks.mu (ids.length + (i - h.length)) := fun i hi => by show (if i < h.length then _ else _) = _; rw [if_neg (by omega)]
    have hold : ∀ k i, ids[k]? = some i → ∃ g, K.mu i = some g ∧ Ks.mu k = some g := by
      intro k i hk
      obtain ⟨g, hg⟩ := H.has i (subH_all hh hk)
      exact ⟨g, hg, S.ext.mu k g (by rw [mu_sub hk]; exact hg)⟩
    have R : Ren (backF ids h.length) Ks (K.merge Ks ids h.length) := by
      refine ⟨rfl, rfl, rfl, rfl, fun k j g hf hg => ?_⟩
      unfold backF at hf
      split at hf
      · rename_i i hi
        cases hf
        obtain ⟨g', h1, h2⟩ := hold k j hi
        rw [hg] at h2
        cases h2
        rw [hmu1 j (subH_all hh hi)]; exact h1
      · rename_i hi
        cases hf
        have hkl : ids.length ≤ k := by
          by_cases hlt : k < ids.length
          · rw [List.getElem?_eq_getElem hlt] at hi; cases hi
          · omega
        rw [hmu2 _ (by omega), show ids.length + (h.length + (k - ids.length) - h.length) = k by omega]; exact hg
    have hX : Ext K (K.merge Ks ids h.length) := by
      refine ⟨S.ext.M, fun i g hi => ?_, fun i g hi => (S.zs g (H.lt i g hi)).1, fun i g hi => (S.zs g (H.lt i g hi)).2, S.ext.R⟩
      have hil : i < h.length := by
        by_cases hlt : i < h.length
        · exact hlt
        · rw [H.fresh i (by omega)] at hi; cases hi
      rw [hmu1 i hil]; exact hi
    have hfar : ∀ i x g, h[i]? = some x → x.live = true → K.mu i = some g → (∀ k : Nat, ids[k]? ≠ some i) → ¬ (K.sub ids).liveB hs g := by
      intro i x g hx hl hg hni hlb
      obtain ⟨k, j, y, hj, hy, hly, hmj⟩ := liveB_sub hh hlb
      have := H.inj i j x y g hx hy hl hly hg hmj
      subst this
      exact hni k hj
    have hcase : ∀ (i : Nat) y, (overlay h ids hb ++ hb.drop ids.length)[i]? = some y →
        (∃ k x, hs'[k]? = some x ∧ renO (backF ids h.length) x = some y ∧ (K.merge Ks ids h.length).mu i = Ks.mu k ∧ ((i < h.length ∧ ids[k]? = some i) ∨ (h.length ≤ i ∧ k = ids.length + (i - h.length)))) ∨
        (i < h.length ∧ (∀ k : Nat, ids[k]? ≠ some i) ∧ h[i]? = some y) := by
      intro i y hy
      by_cases hil : i < h.length
      · rw [List.getElem?_append_left (by rw [overlay_len]; exact hil)] at hy
        rcases overlay_at ids hb h hn (by omega) i y hy with ⟨k, h1, h2⟩ | ⟨h1, h2⟩
        · obtain ⟨x, hx, hxy⟩ := renH_at hrb k y h2
          obtain ⟨g, g1, g2⟩ := hold k i h1
          exact .inl ⟨k, x, hx, hxy, by rw [hmu1 i hil, g1, g2], .inl ⟨hil, h1⟩⟩
        · exact .inr ⟨hil, h1, h2⟩
      · rw [List.getElem?_append_right (by rw [overlay_len]; omega), overlay_len, List.getElem?_drop] at hy
        obtain ⟨x, hx, hxy⟩ := renH_at hrb _ y hy
        exact .inl ⟨_, x, hx, hxy, hmu2 i (by omega), .inr ⟨by omega, rfl⟩⟩
    have hlb : ∀ b, (K.sub ids).liveB hs b → K.liveB h b := by
      intro b hlb
      obtain ⟨k, j, y, hj, hy, hly, hmj⟩ := liveB_sub hh hlb
      exact ⟨j, y, hy, hly, hmj⟩
    have hlen' : (overlay h ids hb ++ hb.drop ids.length).length = h.length + (hs'.length - ids.length) := by simp [overlay_len, hbl]
    have hwr : WR (K.merge Ks ids h.length) (overlay h ids hb ++ hb.drop ids.length) w' := by
      refine ⟨fun i hi => ?_, fun i hi => ?_, fun i g hi => ?_, fun i ty cells hi => ?_, fun i ks vs hi => ?_, fun i ty sz len hi => ?_, fun i j x y g hi hj hlx hly hmi hmj => ?_, fun i ty cells g hi hm o => ?_, S.wr.agr⟩
      · rw [hmu2 i (by omega)]; exact S.wr.fresh _ (by omega)
      · by_cases hil : i < h.length
        · rw [hmu1 i hil]; exact H.has i hil
        · rw [hmu2 i (by omega)]; exact S.wr.has _ (by omega)
      · by_cases hil : i < h.length
        · rw [hmu1 i hil] at hi; have := H.lt i g hi; have := S.frm.size; omega
        · rw [hmu2 i (by omega)] at hi; exact S.wr.lt _ g hi
      · rcases hcase i _ hi with ⟨k, x, hx, hxy, hmk, _⟩ | ⟨hil, hni, hx⟩
        · cases x with
          | box ty' c =>
            rw [renO] at hxy
            obtain ⟨l', hl', e⟩ := map_some' hxy
            cases e
            obtain ⟨g, cs, hm, hw, hs1, hv⟩ := S.wr.box k ty c hx
            exact ⟨g, cs, by rw [hmk]; exact hm, hw, hs1, renL_sound R (by rw [renL_len hl']; exact hv) hl'⟩
          | tok => rw [renO] at hxy; cases hxy
          | dead => rw [renO] at hxy; cases hxy
          | mp => rw [renO] at hxy; obtain ⟨l', hl', e⟩ := map_some' hxy; cases e
        · obtain ⟨g, cs, hm, hw, hs1, hv⟩ := H.box i ty cells hx
          refine ⟨g, cs, hX.mu i g hm, ?_, ?_, hv.mono hX⟩
          · rw [S.frm.block g (H.lt i g hm) (hfar i _ g hx rfl hm hni)]; exact hw
          · rw [hX.Z i g hm, hX.E i g hm]; exact hs1
      · rcases hcase i _ hi with ⟨k, x, hx, hxy, hmk, _⟩ | ⟨hil, hni, hx⟩
        · cases x with
          | mp ks' vs' =>
            rw [renO] at hxy
            obtain ⟨l', hl', e⟩ := map_some' hxy
            cases e
            obtain ⟨g, ents, clock, hm, hw, hv⟩ := S.wr.map k ks vs' hx
            exact ⟨g, ents, clock, by rw [hmk]; exact hm, hw, hv.1, renL_sound R hv.2 hl'⟩
          | box ty' c => rw [renO] at hxy; obtain ⟨l', hl', e⟩ := map_some' hxy; cases e
          | tok => rw [renO] at hxy; cases hxy
          | dead => rw [renO] at hxy; cases hxy
        · obtain ⟨g, ents, clock, hm, hw, hv⟩ := H.map i ks vs hx
          refine ⟨g, ents, clock, hX.mu i g hm, ?_, hv.mono hX⟩
          rw [S.frm.block g (H.lt i g hm) (hfar i _ g hx rfl hm hni)]; exact hw
      · rcases hcase i _ hi with ⟨k, x, hx, hxy, hmk, _⟩ | ⟨hil, hni, hx⟩
        · cases x with
          | box ty' c => rw [renO] at hxy; obtain ⟨l', hl', e⟩ := map_some' hxy; cases e
          | tok ty' sz' len' =>
            rw [renO] at hxy
            cases hxy
            obtain ⟨g, cs, hm, rest⟩ := S.wr.tok k ty sz len hx
            exact ⟨g, cs, by rw [hmk]; exact hm, rest⟩
          | dead => rw [renO] at hxy; cases hxy
          | mp => rw [renO] at hxy; obtain ⟨l', hl', e⟩ := map_some' hxy; cases e
        · obtain ⟨g, cs, hm, hw, h3, h4, h5, h6⟩ := H.tok i ty sz len hx
          have hgl := H.lt i g hm
          have hnl := hfar i _ g hx rfl hm hni
          refine ⟨g, cs, hX.mu i g hm, ?_, ?_, ?_, ?_, fun o ho => ?_⟩
          · rw [S.frm.block g hgl hnl]; exact hw
          · rw [hX.Z i g hm]; exact h3
          · rw [hX.E i g hm]; exact h4
          · rw [hX.Z i g hm]; exact h5
          · show Ks.M g o = none
            rw [S.ms g o hgl hnl]; rw [hX.R] at ho; exact h6 o ho
      · rcases hcase i _ hi with ⟨k, x', hx, hxy, hmk, hk⟩ | ⟨hil, hni, hx⟩
        · rcases hcase j _ hj with ⟨l, y', hy, hyy, hml, hl⟩ | ⟨hjl, hnj, hy⟩
          · rw [hmk] at hmi
            rw [hml] at hmj
            have := S.wr.inj k l x' y' g hx hy (by rw [← renO_live hxy]; exact hlx) (by rw [← renO_live hyy]; exact hly) hmi hmj
            subst this
            rcases hk with ⟨h1, h2⟩ | ⟨h1, h2⟩
            · rcases hl with ⟨h3, h4⟩ | ⟨h3, h4⟩
              · rw [h2] at h4; exact Option.some.inj h4
              · rw [List.getElem?_eq_none (by omega)] at h2; cases h2
            · rcases hl with ⟨h3, h4⟩ | ⟨h3, h4⟩
              · rw [List.getElem?_eq_none (by omega)] at h4; cases h4
              · omega
          · exfalso
            rw [hmu1 j hjl] at hmj
            rw [hmk] at hmi
            exact hfar j y g hy hly hmj hnj (S.live g ⟨k, x', hx, by rw [← renO_live hxy]; exact hlx, hmi⟩ (H.lt j g hmj))
        · rw [hmu1 i hil] at hmi
          rcases hcase j _ hj with ⟨l, y', hy, hyy, hml, hl⟩ | ⟨hjl, hnj, hy⟩
          · exfalso
            rw [hml] at hmj
            exact hfar i x g hx hlx hmi hni (S.live g ⟨l, y', hy, by rw [← renO_live hyy]; exact hly, hmj⟩ (H.lt i g hmi))
          · rw [hmu1 j hjl] at hmj
            exact H.inj i j x y g hx hy hlx hly hmi hmj
      · rcases hcase i _ hi with ⟨k, x, hx, hxy, hmk, _⟩ | ⟨hil, hni, hx⟩
        · rw [hmk] at hm
          cases x with
          | box ty' c => exact S.wr.apart k ty' c g hx hm o
          | tok => rw [renO] at hxy; cases hxy
          | dead => rw [renO] at hxy; cases hxy
          | mp => rw [renO] at hxy; obtain ⟨l', hl', e⟩ := map_some' hxy; cases e
        · rw [hmu1 i hil] at hm
          show Ks.M g o = none
          rw [S.ms g o (H.lt i g hm) (hfar i _ g hx rfl hm hni)]
          exact H.apart i ty cells g hx hm o
    refine ⟨⟨hwr, hX, S.frm.mono (fun b _ hb => hlb b hb), S.zs, fun g o hg hnl => S.ms g o hg (fun h => hnl (hlb g h)), fun k b hk => ?_, fun b hb hlt => ?_, by rw [hlen']; omega⟩, R, S.frm.mono (fun b _ hb => ?_)⟩
    · by_cases hkl : k < h.length
      · rw [hmu1 k hkl] at hk; exact .inl hk
      · rw [hmu2 k (by omega)] at hk
        rcases S.mu _ b hk with h1 | h1 | h1
        · obtain ⟨i, hi, _⟩ := sub_mu h1
          rw [List.getElem?_eq_none (by omega)] at hi; cases hi
        · exact .inr (.inl h1)
        · exact .inr (.inr (hlb b h1))
    · obtain ⟨i, y, hi, hl, hmi⟩ := hb
      rcases hcase i _ hi with ⟨k, x, hx, hxy, hmk, _⟩ | ⟨hil, hni, hx⟩
      · rw [hmk] at hmi
        exact hlb b (S.live b ⟨k, x, hx, by rw [← renO_live hxy]; exact hl, hmi⟩ hlt)
      · rw [hmu1 i hil] at hmi
        exact ⟨i, y, hx, hl, hmi⟩
    · obtain ⟨k, j, y, hj, hy, hly, hmj⟩ := liveB_sub hh hb
      exact ⟨j, y, List.mem_of_getElem? hj, hy, hly, hmj⟩
  · cases hm
end Go.Proofs.YtjpjcjnacnlhdaaGreat
