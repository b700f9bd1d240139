/- How the abstract heap follows an allocation, a store, an append. -/
import Derived.Test.YtjpjcjnacnlhdaaGreatAb1
import Derived.Deep.AppendLies
namespace Go.Proofs.YtjpjcjnacnlhdaaGreat
open Go.RowKit

theorem cell_lt_size {w : World} {g o : Nat} {v : Value} (h : w.cell? ⟨g, o, none⟩ = some v) : g < w.heap.size := by
  by_cases hg : g < w.heap.size
  · exact hg
  · simp [World.cell?, Array.getElem?_eq_none (Nat.le_of_not_lt hg)] at h
theorem heap_lt {w : World} {g : Nat} {o : Obj} (h : w.heap[g]? = some o) : g < w.heap.size := by
  by_cases hg : g < w.heap.size
  · exact hg
  · rw [Array.getElem?_eq_none (Nat.le_of_not_lt hg)] at h; cases h
theorem WR.noM {K : Kn} {h : List AObj} {w : World} (H : WR K h w) {g : Nat} (hg : w.heap.size ≤ g) (o : Nat) : K.M g o = none := by
  cases hm : K.M g o with
  | none => rfl
  | some v => have := cell_lt_size (H.agr g o v hm); omega
theorem WR.same {K : Kn} {h : List AObj} {w w' : World} (H : WR K h w) (e : w'.heap = w.heap) : WR K h w' := by
  refine ⟨H.fresh, H.has, fun i g hg => by rw [e]; exact H.lt i g hg, fun i ty cells hi => ?_, fun i ks vs hi => ?_, fun t ty sz len ht => ?_, H.inj, H.apart, fun g o v hm => ?_⟩
  · rw [e]; exact H.box i ty cells hi
  · rw [e]; exact H.map i ks vs hi
  · rw [e]; exact H.tok t ty sz len ht
  · rw [World.cell?_of_block (w := w) (by rw [e])]; exact H.agr g o v hm

/-- An object more: in block g. -/
def Kn.withBox (K : Kn) (i g z e : Nat) : Kn := { K with mu := fun j => if j = i then some g else K.mu j, Z := fun b => if b = g then z else K.Z b, E := fun b => if b = g then e else K.E b }
theorem Ext.withBox {K : Kn} {i g z e : Nat} (h : K.mu i = none) (hZE : ∀ i, K.mu i = some g → K.Z g = z ∧ K.E g = e) : Ext K (K.withBox i g z e) := by
  refine ⟨fun _ _ _ h => h, fun j g' hj => ?_, fun i b hi => ?_, fun i b hi => ?_, rfl⟩
  · show (if j = i then some g else K.mu j) = some g'
    by_cases e : j = i
    · subst e; rw [h] at hj; cases hj
    · rw [if_neg e]; exact hj
  · show (if b = g then z else K.Z b) = K.Z b
    by_cases e : b = g
    · subst e; rw [if_pos rfl]; exact (hZE i hi).1.symm
    · rw [if_neg e]
  · show (if b = g then e else K.E b) = K.E b
    by_cases e : b = g
    · subst e; rw [if_pos rfl]; exact (hZE i hi).2.symm
    · rw [if_neg e]
/-- What an object says of its block. -/
def ObjOk (K : Kn) (x : AObj) (g : Nat) (w : World) : Prop := match x with
  | .box ty cells => ∃ cs, w.heap[g]? = some (.cells cs ty (0, 0)) ∧ (cs.size = K.Z g * K.E g ∧ K.Z g ≤ maxLen) ∧ VL K cells (cs.toList.take cells.length)
  | .mp ks vs => ∃ ents clock, w.heap[g]? = some (.map ents clock) ∧ ML K ks vs ents.toList
  | _ => False
theorem get_snoc {α : Type} {l : List α} {x y : α} {i : Nat} (h : (l ++ [x])[i]? = some y) : (i < l.length ∧ l[i]? = some y) ∨ (i = l.length ∧ x = y) := by
  by_cases hi : i < l.length
  · rw [List.getElem?_append_left hi] at h; exact .inl ⟨hi, h⟩
  · rw [List.getElem?_append_right (by omega)] at h
    by_cases h0 : i - l.length = 0
    · rw [h0] at h
      refine .inr ⟨by omega, ?_⟩
      simpa using h
    · rw [List.getElem?_eq_none (by simp; omega)] at h; cases h
theorem WR.put {K : Kn} {h h1 : List AObj} {w w' : World} (H : WR K h w) (x : AObj) (g z e : Nat) (hx : ObjOk (K.withBox h.length g z e) x g w') (hgl : g < w'.heap.size)
    (hsize : w.heap.size ≤ w'.heap.size) (hblk : ∀ k, k < w.heap.size → k ≠ g → w'.heap[k]? = w.heap[k]?) (hM : ∀ o, K.M g o = none)
    (hlen : h1.length = h.length) (h1h : ∀ (j : Nat) x, h1[j]? = some x → x.live = true → h[j]? = some x ∧ K.mu j ≠ some g)
    (hZE : ∀ i, K.mu i = some g → K.Z g = z ∧ K.E g = e) :
    WR (K.withBox h.length g z e) (h1 ++ [x]) w' ∧ Ext K (K.withBox h.length g z e) := by
  have hfr := H.fresh _ (Nat.le_refl _)
  have hxt : Ext K (K.withBox h.length g z e) := Ext.withBox hfr hZE
  have hnew : (K.withBox h.length g z e).mu h.length = some g := by show (if _ then _ else _) = _; rw [if_pos rfl]
  have hmo : ∀ i b, (K.withBox h.length g z e).mu i = some b → (i = h.length ∧ b = g) ∨ (i ≠ h.length ∧ K.mu i = some b) := by
    intro i b hi
    change (if i = h.length then some g else K.mu i) = some b at hi
    by_cases e : i = h.length
    · rw [if_pos e] at hi; cases hi; exact .inl ⟨e, rfl⟩
    · rw [if_neg e] at hi; exact .inr ⟨e, hi⟩
  refine ⟨⟨fun i hi => ?_, fun i hi => ?_, fun i b hi => ?_, fun i ty' cells' hi => ?_, fun i ks' vs' hi => ?_, fun t ty' sz' len ht => ?_, fun i j x y b hi hj hlx hly hmi hmj => ?_, fun i ty' cells' b hi hm o => ?_, fun b o v hm => ?_⟩, hxt⟩
  · simp [hlen] at hi
    show (if i = h.length then some g else K.mu i) = none
    rw [if_neg (by omega)]
    exact H.fresh i (by omega)
  · by_cases e : i = h.length
    · subst e; exact ⟨_, hnew⟩
    · obtain ⟨b, hb⟩ := H.has i (by simp [hlen] at hi; omega)
      exact ⟨b, hxt.mu i b hb⟩
  · rcases hmo i b hi with ⟨_, rfl⟩ | ⟨_, hi⟩
    · exact hgl
    · have := H.lt i b hi; omega
  · rcases get_snoc hi with ⟨hl, hi⟩ | ⟨rfl, hi2⟩
    · obtain ⟨hh, hne⟩ := h1h i _ hi rfl
      obtain ⟨b, cs', hm, hw, hs, hvl⟩ := H.box i ty' cells' hh
      refine ⟨b, cs', hxt.mu i b hm, ?_, ?_, hvl.mono hxt⟩
      · rw [hblk b (H.lt i b hm) (fun e => hne (by rw [← e]; exact hm))]; exact hw
      · rw [hxt.Z i b hm, hxt.E i b hm]; exact hs
    · subst hi2
      obtain ⟨cs, h1, h2, h3⟩ := hx
      exact ⟨g, cs, by rw [hlen]; exact hnew, h1, h2, h3⟩
  · rcases get_snoc hi with ⟨hl, hi⟩ | ⟨rfl, hi2⟩
    · obtain ⟨hh, hne⟩ := h1h i _ hi rfl
      obtain ⟨b, ents, clock, hm, hw, hvl⟩ := H.map i ks' vs' hh
      refine ⟨b, ents, clock, hxt.mu i b hm, ?_, hvl.mono hxt⟩
      rw [hblk b (H.lt i b hm) (fun e => hne (by rw [← e]; exact hm))]; exact hw
    · subst hi2
      obtain ⟨ents, clock, h1, h2⟩ := hx
      exact ⟨g, ents, clock, by rw [hlen]; exact hnew, h1, h2⟩
  · rcases get_snoc ht with ⟨hl, ht⟩ | ⟨rfl, ht2⟩
    · obtain ⟨hh, hne⟩ := h1h t _ ht rfl
      obtain ⟨b, cs', hm, hw, h3, h4, h5, h6⟩ := H.tok t ty' sz' len hh
      have hbg : b ≠ g := fun e => hne (by rw [← e]; exact hm)
      refine ⟨b, cs', hxt.mu t b hm, ?_, ?_, ?_, ?_, h6⟩
      · rw [hblk b (H.lt t b hm) hbg]; exact hw
      · rw [hxt.Z t b hm]; exact h3
      · rw [hxt.E t b hm]; exact h4
      · rw [hxt.Z t b hm]; exact h5
    · subst ht2; exact hx.elim
  · rcases hmo i b hmi with ⟨hi1, hb⟩ | ⟨hi1, hmi⟩
    · rcases hmo j b hmj with ⟨hj1, _⟩ | ⟨hj1, hmj⟩
      · omega
      · rcases get_snoc hj with ⟨_, hj⟩ | ⟨e, _⟩
        · exact absurd (by rw [← hb]; exact hmj) (h1h j y hj hly).2
        · exact absurd (by rw [e, hlen]) hj1
    · rcases get_snoc hi with ⟨_, hi⟩ | ⟨e, _⟩
      · rcases hmo j b hmj with ⟨hj1, hb⟩ | ⟨hj1, hmj⟩
        · exact absurd (by rw [← hb]; exact hmi) (h1h i x hi hlx).2
        · rcases get_snoc hj with ⟨_, hj⟩ | ⟨e, _⟩
          · exact H.inj i j x y b (h1h i x hi hlx).1 (h1h j y hj hly).1 hlx hly hmi hmj
          · exact absurd (by rw [e, hlen]) hj1
      · exact absurd (by rw [e, hlen]) hi1
  · rcases hmo i b hm with ⟨_, rfl⟩ | ⟨hi1, hm⟩
    · exact hM o
    · rcases get_snoc hi with ⟨_, hi⟩ | ⟨e, hi2⟩
      · exact H.apart i ty' cells' b (h1h i _ hi rfl).1 hm o
      · exact absurd (by rw [e, hlen]) hi1
  · have hm' : K.M b o = some v := hm
    have hc := H.agr b o v hm'
    rw [World.cell?_of_block (w := w) (hblk b (cell_lt_size hc) (fun e => by subst e; rw [hM o] at hm'; cases hm'))]
    exact hc

/-- An object more: a row in block g, of n elements. -/
def Kn.withTok (K : Kn) (i g n sz cap : Nat) (cur : Array Value) : Kn where
  M := fun b o => if b = g ∧ o < n * sz then cur[o]? else K.M b o
  Z := fun b => if b = g then cap else K.Z b
  E := fun b => if b = g then sz else K.E b
  mu := fun j => if j = i then some g else K.mu j
  R := K.R

theorem WR.withTok {K : Kn} {h h1 : List AObj} {w w' : World} (H : WR K h w) (ty : TypeId) (g n sz cap : Nat) (cur : Array Value)
    (hg : w'.heap[g]? = some (.cells cur ty (0, 0))) (hcs : cur.size = cap * sz) (hcap : cap ≤ maxLen)
    (hsize : w.heap.size ≤ w'.heap.size) (hblk : ∀ k, k < w.heap.size → k ≠ g → w'.heap[k]? = w.heap[k]?)
    (hold : ∀ o v, K.M g o = some v → o < n * sz ∧ cur[o]? = some v)
    (hlen : h1.length = h.length) (h1h : ∀ (j : Nat) x, h1[j]? = some x → x.live = true → h[j]? = some x ∧ K.mu j ≠ some g)
    (hZE : ∀ i, K.mu i = some g → K.Z g = cap ∧ K.E g = sz) {n' : Nat} (hn' : dl K.R n' = n) :
    WR (K.withTok h.length g n sz cap cur) (h1 ++ [.tok ty sz n']) w' ∧ Ext K (K.withTok h.length g n sz cap cur) := by
  have hfr := H.fresh _ (Nat.le_refl _)
  have hx : Ext K (K.withTok h.length g n sz cap cur) := by
    refine ⟨fun b o v hm => ?_, fun i b hi => ?_, fun i b hi => ?_, fun i b hi => ?_, rfl⟩
    · show (if b = g ∧ o < n * sz then cur[o]? else K.M b o) = some v
      by_cases e : b = g
      · subst e
        have := hold o v hm
        rw [if_pos ⟨rfl, this.1⟩]; exact this.2
      · rw [if_neg (fun h => e h.1)]; exact hm
    · show (if i = h.length then some g else K.mu i) = some b
      by_cases e : i = h.length
      · subst e; rw [hfr] at hi; cases hi
      · rw [if_neg e]; exact hi
    · show (if b = g then cap else K.Z b) = K.Z b
      by_cases e : b = g
      · subst e; rw [if_pos rfl]; exact (hZE i hi).1.symm
      · rw [if_neg e]
    · show (if b = g then sz else K.E b) = K.E b
      by_cases e : b = g
      · subst e; rw [if_pos rfl]; exact (hZE i hi).2.symm
      · rw [if_neg e]
  have hnew : (K.withTok h.length g n sz cap cur).mu h.length = some g := by show (if _ then _ else _) = _; rw [if_pos rfl]
  have hmo : ∀ i b, (K.withTok h.length g n sz cap cur).mu i = some b → (i = h.length ∧ b = g) ∨ (i ≠ h.length ∧ K.mu i = some b) := by
    intro i b hi
    change (if i = h.length then some g else K.mu i) = some b at hi
    by_cases e : i = h.length
    · rw [if_pos e] at hi; cases hi; exact .inl ⟨e, rfl⟩
    · rw [if_neg e] at hi; exact .inr ⟨e, hi⟩
  have hMo : ∀ b o v, (K.withTok h.length g n sz cap cur).M b o = some v → (b = g ∧ o < n * sz ∧ cur[o]? = some v) ∨ (K.M b o = some v) := by
    intro b o v hm
    change (if b = g ∧ o < n * sz then cur[o]? else K.M b o) = some v at hm
    by_cases e : b = g ∧ o < n * sz
    · rw [if_pos e] at hm; exact .inl ⟨e.1, e.2, hm⟩
    · rw [if_neg e] at hm; exact .inr hm
  have hMn : ∀ b, b ≠ g → ∀ o, (K.withTok h.length g n sz cap cur).M b o = K.M b o := by
    intro b hb o
    show (if b = g ∧ o < n * sz then cur[o]? else K.M b o) = _
    rw [if_neg (fun h => hb h.1)]
  have hgl := heap_lt hg
  refine ⟨⟨fun i hi => ?_, fun i hi => ?_, fun i b hi => ?_, fun i ty' cells' hi => ?_, fun i ks' vs' hi => ?_, fun t ty' sz' len ht => ?_, fun i j x y b hi hj hlx hly hmi hmj => ?_, fun i ty' cells' b hi hm o => ?_, fun b o v hm => ?_⟩, hx⟩
  · simp [hlen] at hi
    show (if i = h.length then some g else K.mu i) = none
    rw [if_neg (by omega)]
    exact H.fresh i (by omega)
  · by_cases e : i = h.length
    · subst e; exact ⟨_, hnew⟩
    · obtain ⟨b, hb⟩ := H.has i (by simp [hlen] at hi; omega)
      exact ⟨b, hx.mu i b hb⟩
  · rcases hmo i b hi with ⟨_, rfl⟩ | ⟨_, hi⟩
    · exact hgl
    · have := H.lt i b hi; omega
  · rcases get_snoc hi with ⟨hl, hi⟩ | ⟨rfl, hi2⟩
    · obtain ⟨hh, hne⟩ := h1h i _ hi rfl
      obtain ⟨b, cs', hm, hw, hs, hvl⟩ := H.box i ty' cells' hh
      refine ⟨b, cs', hx.mu i b hm, ?_, ?_, hvl.mono hx⟩
      · rw [hblk b (H.lt i b hm) (fun e => hne (by rw [← e]; exact hm))]; exact hw
      · rw [hx.Z i b hm, hx.E i b hm]; exact hs
    · cases hi2
  · rcases get_snoc hi with ⟨hl, hi⟩ | ⟨rfl, hi2⟩
    · obtain ⟨hh, hne⟩ := h1h i _ hi rfl
      obtain ⟨b, ents, clock, hm, hw, hvl⟩ := H.map i ks' vs' hh
      refine ⟨b, ents, clock, hx.mu i b hm, ?_, hvl.mono hx⟩
      rw [hblk b (H.lt i b hm) (fun e => hne (by rw [← e]; exact hm))]; exact hw
    · cases hi2
  · rcases get_snoc ht with ⟨hl, ht⟩ | ⟨rfl, ht2⟩
    · obtain ⟨hh, hne⟩ := h1h t _ ht rfl
      obtain ⟨b, cs', hm, hw, h3, h4, h5, h6⟩ := H.tok t ty' sz' len hh
      have hbg : b ≠ g := fun e => hne (by rw [← e]; exact hm)
      refine ⟨b, cs', hx.mu t b hm, ?_, ?_, ?_, ?_, ?_⟩
      · rw [hblk b (H.lt t b hm) hbg]; exact hw
      · rw [hx.Z t b hm]; exact h3
      · rw [hx.E t b hm]; exact h4
      · rw [hx.Z t b hm]; exact h5
      · intro o ho; rw [hMn b hbg]; exact h6 o ho
    · cases ht2
      rw [hlen] at *
      refine ⟨g, cur, hnew, hg, ?_, ?_, ?_, ?_⟩
      · show cur.size = (if g = g then cap else K.Z g) * sz; rw [if_pos rfl]; exact hcs
      · show (if g = g then sz else K.E g) = sz; rw [if_pos rfl]
      · show (if g = g then cap else K.Z g) ≤ maxLen; rw [if_pos rfl]; exact hcap
      · intro o ho
        change dl K.R n' * sz ≤ o at ho
        rw [hn'] at ho
        show (if g = g ∧ o < n * sz then cur[o]? else K.M g o) = none
        rw [if_neg (by omega)]
        cases hm : K.M g o with
        | none => rfl
        | some v => have := (hold o v hm).1; omega
  · rcases hmo i b hmi with ⟨hi1, hb⟩ | ⟨hi1, hmi⟩
    · rcases hmo j b hmj with ⟨hj1, _⟩ | ⟨hj1, hmj⟩
      · omega
      · rcases get_snoc hj with ⟨_, hj⟩ | ⟨e, _⟩
        · exact absurd (by rw [← hb]; exact hmj) (h1h j y hj hly).2
        · exact absurd (by rw [e, hlen]) hj1
    · rcases get_snoc hi with ⟨_, hi⟩ | ⟨e, _⟩
      · rcases hmo j b hmj with ⟨hj1, hb⟩ | ⟨hj1, hmj⟩
        · exact absurd (by rw [← hb]; exact hmi) (h1h i x hi hlx).2
        · rcases get_snoc hj with ⟨_, hj⟩ | ⟨e, _⟩
          · exact H.inj i j x y b (h1h i x hi hlx).1 (h1h j y hj hly).1 hlx hly hmi hmj
          · exact absurd (by rw [e, hlen]) hj1
      · exact absurd (by rw [e, hlen]) hi1
  · rcases get_snoc hi with ⟨_, hi⟩ | ⟨e, hi2⟩
    · obtain ⟨hh, hne⟩ := h1h i _ hi rfl
      rcases hmo i b hm with ⟨e, _⟩ | ⟨hi1, hm⟩
      · have : i < h1.length := by
          by_cases hl : i < h1.length
          · exact hl
          · rw [List.getElem?_eq_none (by omega)] at hi; cases hi
        omega
      · rw [hMn b (fun e => hne (by rw [← e]; exact hm))]
        exact H.apart i ty' cells' b hh hm o
    · cases hi2
  · rcases hMo b o v hm with ⟨rfl, _, hc⟩ | hm2
    · simp [World.cell?, hg, hc]
    · by_cases e : b = g
      · subst e
        simp [World.cell?, hg, (hold o v hm2).2]
      · have hc := H.agr b o v hm2
        rw [World.cell?_of_block (w := w) (hblk b (cell_lt_size hc) e)]
        exact hc

/-- A store into a variable, a row or a map. -/
theorem WR.store {K : Kn} {h : List AObj} {w w' : World} (H : WR K h w) (i : Nat) (x0 x : AObj) (g : Nat) (hi : h[i]? = some x0) (hl0 : x0.live = true) (hlx0 : x.live = true) (hm : K.mu i = some g)
    (hx : ObjOk K x g w') (hM : ∀ o, K.M g o = none) (hsize : w'.heap.size = w.heap.size) (hblk : ∀ k, k ≠ g → w'.heap[k]? = w.heap[k]?) :
    WR K (h.set i x) w' := by
  have hil : i < h.length := by
    by_cases hl : i < h.length
    · exact hl
    · rw [List.getElem?_eq_none (by omega)] at hi; cases hi
  have hget : ∀ (j : Nat) y, (h.set i x)[j]? = some y → (j = i ∧ y = x) ∨ (j ≠ i ∧ h[j]? = some y) := by
    intro j y hj
    rw [List.getElem?_set] at hj
    by_cases e : i = j
    · subst e; rw [if_pos rfl, if_pos hil] at hj; cases hj; exact .inl ⟨rfl, rfl⟩
    · rw [if_neg e] at hj; exact .inr ⟨fun h => e h.symm, hj⟩
  have hlive : ∀ (j : Nat) y, (h.set i x)[j]? = some y → y.live = true → ∃ y, h[j]? = some y ∧ y.live = true := by
    intro j y hj hl
    rcases hget j y hj with ⟨rfl, _⟩ | ⟨_, hj⟩
    · exact ⟨_, hi, hl0⟩
    · exact ⟨y, hj, hl⟩
  refine ⟨fun j hj => H.fresh j (by simpa using hj), fun j hj => H.has j (by simpa using hj), fun j b hj => by rw [hsize]; exact H.lt j b hj, fun j ty' c hj => ?_, fun j ks' vs' hj => ?_, fun t ty' sz len ht => ?_, fun a b x y q ha hb hlx hly hma hmb => ?_, fun j ty' c b hj hmj o => ?_, fun b o v hmv => ?_⟩
  · rcases hget j _ hj with ⟨rfl, e⟩ | ⟨hne, hj⟩
    · subst e; obtain ⟨cs, h1, h2, h3⟩ := hx; exact ⟨g, cs, hm, h1, h2, h3⟩
    · obtain ⟨b, cs2, hm2, hw2, hv2⟩ := H.box j ty' c hj
      refine ⟨b, cs2, hm2, ?_, hv2⟩
      rw [hblk b (fun e => hne (by subst e; exact H.inj j i _ _ b hj hi rfl hl0 hm2 hm))]; exact hw2
  · rcases hget j _ hj with ⟨rfl, e⟩ | ⟨hne, hj⟩
    · subst e; obtain ⟨ents, clock, h1, h2⟩ := hx; exact ⟨g, ents, clock, hm, h1, h2⟩
    · obtain ⟨b, ents, clock, hm2, hw2, hv2⟩ := H.map j ks' vs' hj
      refine ⟨b, ents, clock, hm2, ?_, hv2⟩
      rw [hblk b (fun e => hne (by subst e; exact H.inj j i _ _ b hj hi rfl hl0 hm2 hm))]; exact hw2
  · rcases hget t _ ht with ⟨_, e⟩ | ⟨hne, ht⟩
    · subst e; exact hx.elim
    · obtain ⟨b, cs2, hm2, hw2, rest⟩ := H.tok t ty' sz len ht
      refine ⟨b, cs2, hm2, ?_, rest⟩
      rw [hblk b (fun e => hne (by subst e; exact H.inj t i _ _ b ht hi rfl hl0 hm2 hm))]; exact hw2
  · obtain ⟨x', hx', hlx'⟩ := hlive a x ha hlx
    obtain ⟨y', hy', hly'⟩ := hlive b y hb hly
    exact H.inj a b x' y' q hx' hy' hlx' hly' hma hmb
  · rcases hget j _ hj with ⟨rfl, e⟩ | ⟨hne, hj⟩
    · rw [hm] at hmj; cases hmj; exact hM o
    · exact H.apart j ty' c b hj hmj o
  · have hbg : b ≠ g := fun e => by subst e; rw [hM o] at hmv; cases hmv
    rw [World.cell?_of_block (w := w) (hblk b hbg)]
    exact H.agr b o v hmv
/-- Cells of a map's block: none. -/
theorem WR.mapM {K : Kn} {h : List AObj} {w : World} (H : WR K h w) {g : Nat} {ents : Array MapEntry} {clock : Nat} (hg : w.heap[g]? = some (.map ents clock)) (o : Nat) : K.M g o = none := by
  cases hm : K.M g o with
  | none => rfl
  | some v => have := H.agr g o v hm; simp [World.cell?, hg] at this

/-- A block of an object that may still be written. -/
def Kn.liveB (K : Kn) (h : List AObj) (b : Nat) : Prop := ∃ (i : Nat) (x : AObj), h[i]? = some x ∧ x.live = true ∧ K.mu i = some b
/-- From one state to a later one. -/
structure Step (K : Kn) (h : List AObj) (w : World) (K' : Kn) (h' : List AObj) (w' : World) : Prop where
  wr : WR K' h' w'
  ext : Ext K K'
  frm : Frm (K.liveB h) w w'
  zs : ∀ g, g < w.heap.size → K'.Z g = K.Z g ∧ K'.E g = K.E g
  ms : ∀ g o, g < w.heap.size → ¬ K.liveB h g → K'.M g o = K.M g o
  mu : ∀ k b, K'.mu k = some b → K.mu k = some b ∨ w.heap.size ≤ b ∨ K.liveB h b
  live : ∀ b, K'.liveB h' b → b < w.heap.size → K.liveB h b
  len : h.length ≤ h'.length
theorem Step.refl {K : Kn} {h : List AObj} {w : World} (H : WR K h w) : Step K h w K h w :=
  ⟨H, Ext.refl K, Frm.refl _ w, fun _ _ => ⟨rfl, rfl⟩, fun _ _ _ _ => rfl, fun _ _ h => .inl h, fun _ h _ => h, Nat.le_refl _⟩
theorem Step.trans {K K1 K2 : Kn} {h h1 h2 : List AObj} {w w1 w2 : World} (a : Step K h w K1 h1 w1) (b : Step K1 h1 w1 K2 h2 w2) : Step K h w K2 h2 w2 where
  wr := b.wr
  ext := a.ext.trans b.ext
  frm := a.frm.trans b.frm (fun i hi ht => a.live i ht hi)
  zs := fun g hg => by
    have h1 := a.zs g hg
    have h2 := b.zs g (Nat.lt_of_lt_of_le hg a.frm.size)
    exact ⟨h2.1.trans h1.1, h2.2.trans h1.2⟩
  ms := fun g o hg hl => (b.ms g o (Nat.lt_of_lt_of_le hg a.frm.size) (fun h => hl (a.live g h hg))).trans (a.ms g o hg hl)
  mu := fun k c hk => by
    have hsz := a.frm.size
    rcases b.mu k c hk with h | h | h
    · exact a.mu k c h
    · exact .inr (.inl (Nat.le_trans hsz h))
    · by_cases hc : c < w.heap.size
      · exact .inr (.inr (a.live c h hc))
      · exact .inr (.inl (Nat.le_of_not_lt hc))
  live := fun c hl hc => a.live c (b.live c hl (Nat.lt_of_lt_of_le hc a.frm.size)) hc
  len := Nat.le_trans a.len b.len
theorem Step.put {K : Kn} {h h1 : List AObj} {w w' : World} (H : WR K h w) (x : AObj) (g z e : Nat) (hx : ObjOk (K.withBox h.length g z e) x g w') (hgs : g < w'.heap.size)
    (hfr : Frm (fun k => k = g) w w') (hM : ∀ o, K.M g o = none)
    (hlen : h1.length = h.length) (h1h : ∀ (j : Nat) x, h1[j]? = some x → x.live = true → h[j]? = some x ∧ K.mu j ≠ some g)
    (hZE : ∀ i, K.mu i = some g → K.Z g = z ∧ K.E g = e) (hgl : w.heap.size ≤ g ∨ K.liveB h g) :
    Step K h w (K.withBox h.length g z e) (h1 ++ [x]) w' := by
  obtain ⟨hw, hxt⟩ := H.put x g z e hx hgs hfr.size (fun k hk hne => hfr.block k hk hne) hM hlen h1h hZE
  have hmu : ∀ k b, (K.withBox h.length g z e).mu k = some b → (k = h.length ∧ b = g) ∨ K.mu k = some b := by
    intro k b hk
    change (if k = h.length then some g else K.mu k) = some b at hk
    by_cases e : k = h.length
    · rw [if_pos e] at hk; cases hk; exact .inl ⟨e, rfl⟩
    · rw [if_neg e] at hk; exact .inr hk
  refine ⟨hw, hxt, hfr.mono (fun i hi e => ?_), fun b hb => ?_, fun b o hb hl => rfl, fun k b hk => ?_, fun b hl hb => ?_, by simp [hlen]⟩
  · subst e
    rcases hgl with h | h
    · omega
    · exact h
  · show (if b = g then z else K.Z b) = K.Z b ∧ (if b = g then e else K.E b) = K.E b
    by_cases e : b = g
    · subst e
      rcases hgl with h | ⟨i, x, _, _, hm⟩
      · omega
      · have := hZE i hm
        rw [if_pos rfl, if_pos rfl]; exact ⟨this.1.symm, this.2.symm⟩
    · rw [if_neg e, if_neg e]; exact ⟨rfl, rfl⟩
  · rcases hmu k b hk with ⟨_, rfl⟩ | h
    · exact .inr hgl
    · exact .inl h
  · obtain ⟨i, x, hi, hlx, hm⟩ := hl
    rcases hmu i b hm with ⟨_, rfl⟩ | h2
    · rcases hgl with h | h
      · omega
      · exact h
    · rcases get_snoc hi with ⟨_, hi⟩ | ⟨e, _⟩
      · exact ⟨i, x, (h1h i x hi hlx).1, hlx, h2⟩
      · rw [e, hlen, H.fresh _ (Nat.le_refl _)] at h2; cases h2
theorem withBox_Z (K : Kn) (i g z e : Nat) : (K.withBox i g z e).Z g = z := by show (if g = g then z else K.Z g) = z; rw [if_pos rfl]
theorem withBox_E (K : Kn) (i g z e : Nat) : (K.withBox i g z e).E g = e := by show (if g = g then e else K.E g) = e; rw [if_pos rfl]
/-- A new block. -/
theorem Step.fresh {K : Kn} {h : List AObj} {w w' : World} (H : WR K h w) (x : AObj) (z e : Nat) (ob : Obj) (hw' : w'.heap = w.heap.push ob) (hfr : Frm (fun _ => False) w w') (hx : Ext K (K.withBox h.length w.heap.size z e) → ObjOk (K.withBox h.length w.heap.size z e) x w.heap.size w') :
    Step K h w (K.withBox h.length w.heap.size z e) (h ++ [x]) w' := by
  have hno : ∀ i, K.mu i ≠ some w.heap.size := fun i hm => by have := H.lt i _ hm; omega
  exact Step.put H x w.heap.size z e (hx (Ext.withBox (H.fresh _ (Nat.le_refl _)) (fun i hm => absurd hm (hno i)))) (by rw [hw']; simp) (hfr.mono (fun _ _ h => h.elim)) (fun o => H.noM (Nat.le_refl _) o) rfl
    (fun j x hj _ => ⟨hj, hno j⟩) (fun i hm => absurd hm (hno i)) (.inl (Nat.le_refl _))
theorem Step.allocBox {K : Kn} {h : List AObj} {w : World} (H : WR K h w) (ty : TypeId) (cells : List AV) (cs : Array Value) (hv : VL K cells cs.toList) :
    Step K h w (K.withBox h.length w.heap.size 1 cs.size) (h ++ [.box ty cells]) (w.alloc (.cells cs ty)) := by
  refine Step.fresh H (.box ty cells) 1 cs.size (.cells cs ty) rfl ⟨rfl, rfl, rfl, by simp, fun k hk _ => Below.heap_alloc w _ k hk⟩ (fun hx => ?_)
  refine ⟨cs, heap_alloc_new w _, ?_, ?_⟩
  · rw [withBox_Z, withBox_E]; exact ⟨by omega, by decide⟩
  · have hl : cells.length = cs.toList.length := hv.1
    rw [hl, List.take_length]; exact hv.mono hx
theorem Step.withTok {K : Kn} {h h1 : List AObj} {w w' : World} (H : WR K h w) (ty : TypeId) (g n sz cap : Nat) (cur : Array Value)
    (hg : w'.heap[g]? = some (.cells cur ty (0, 0))) (hcs : cur.size = cap * sz) (hcap : cap ≤ maxLen)
    (hfr : Frm (fun k => k = g) w w')
    (hold : ∀ o v, K.M g o = some v → o < n * sz ∧ cur[o]? = some v)
    (hlen : h1.length = h.length) (h1h : ∀ (j : Nat) x, h1[j]? = some x → x.live = true → h[j]? = some x ∧ K.mu j ≠ some g)
    (hZE : ∀ i, K.mu i = some g → K.Z g = cap ∧ K.E g = sz) (hgl : w.heap.size ≤ g ∨ K.liveB h g) {n' : Nat} (hn' : dl K.R n' = n) :
    Step K h w (K.withTok h.length g n sz cap cur) (h1 ++ [.tok ty sz n']) w' := by
  obtain ⟨hw, hx⟩ := H.withTok ty g n sz cap cur hg hcs hcap hfr.size (fun k hk hne => hfr.block k hk hne) hold hlen h1h hZE hn'
  have hmu : ∀ k b, (K.withTok h.length g n sz cap cur).mu k = some b → (k = h.length ∧ b = g) ∨ K.mu k = some b := by
    intro k b hk
    change (if k = h.length then some g else K.mu k) = some b at hk
    by_cases e : k = h.length
    · rw [if_pos e] at hk; cases hk; exact .inl ⟨e, rfl⟩
    · rw [if_neg e] at hk; exact .inr hk
  refine ⟨hw, hx, hfr.mono (fun i hi e => ?_), fun b hb => ?_, fun b o hb hl => ?_, fun k b hk => ?_, fun b hl hb => ?_, by simp [hlen]⟩
  · subst e
    rcases hgl with h | h
    · omega
    · exact h
  · show (if b = g then cap else K.Z b) = K.Z b ∧ (if b = g then sz else K.E b) = K.E b
    by_cases e : b = g
    · subst e
      rcases hgl with h | ⟨i, x, _, _, hm⟩
      · omega
      · have := hZE i hm
        rw [if_pos rfl, if_pos rfl]; exact ⟨this.1.symm, this.2.symm⟩
    · rw [if_neg e, if_neg e]; exact ⟨rfl, rfl⟩
  · show (if b = g ∧ o < n * sz then cur[o]? else K.M b o) = K.M b o
    rw [if_neg]
    rintro ⟨rfl, _⟩
    rcases hgl with h | h
    · omega
    · exact hl h
  · rcases hmu k b hk with ⟨_, rfl⟩ | h
    · exact .inr hgl
    · exact .inl h
  · obtain ⟨i, x, hi, hlx, hm⟩ := hl
    rcases hmu i b hm with ⟨_, rfl⟩ | h2
    · rcases hgl with h | h
      · omega
      · exact h
    · rcases get_snoc hi with ⟨_, hi⟩ | ⟨e, _⟩
      · exact ⟨i, x, (h1h i x hi hlx).1, hlx, h2⟩
      · rw [e, hlen, H.fresh _ (Nat.le_refl _)] at h2; cases h2
theorem Step.store {K : Kn} {h : List AObj} {w w' : World} (H : WR K h w) (i : Nat) (x0 x : AObj) (g : Nat) (hi : h[i]? = some x0) (hl0 : x0.live = true) (hlx : x.live = true) (hm : K.mu i = some g)
    (hx : ObjOk K x g w') (hM : ∀ o, K.M g o = none) (hfr : Frm (fun k => k = g) w w') (hsize : w'.heap.size = w.heap.size) (hblk : ∀ k, k ≠ g → w'.heap[k]? = w.heap[k]?) :
    Step K h w K (h.set i x) w' := by
  refine ⟨H.store i x0 x g hi hl0 hlx hm hx hM hsize hblk, Ext.refl K, hfr.mono (fun b _ e => ?_), fun _ _ => ⟨rfl, rfl⟩, fun _ _ _ _ => rfl, fun _ _ h => .inl h, fun b hl _ => ?_, by simp⟩
  · subst e; exact ⟨i, _, hi, hl0, hm⟩
  · obtain ⟨j, y, hj, hly, hmj⟩ := hl
    rw [List.getElem?_set] at hj
    by_cases e : i = j
    · subst e; exact ⟨i, _, hi, hl0, hmj⟩
    · rw [if_neg e] at hj; exact ⟨j, y, hj, hly, hmj⟩
end Go.Proofs.YtjpjcjnacnlhdaaGreat
