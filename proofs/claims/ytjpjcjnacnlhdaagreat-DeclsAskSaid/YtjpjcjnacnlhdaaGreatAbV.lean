/- From names to values and back. -/
import Derived.Test.YtjpjcjnacnlhdaaGreatAb17
namespace Go.Proofs.YtjpjcjnacnlhdaaGreat
open Go.RowKit

/-- No names within. -/
inductive NS : PV → Prop where
  | lit (v : Value) : NS (.lit v)
  | rows (es : List (List PV)) (h : ∀ c ∈ es, ∀ p ∈ c, NS p) : NS (.rows es)
  | opq (ne : List ByteArray) (lo hi : Nat) : NS (.opq ne lo hi)
  | rng (lo hi : Nat) : NS (.rng lo hi)
  | any : NS .any
theorem PR.swap {R R' : Nat → PV} {M : Nat → Nat → Option Value} {p : PV} {v : Value} (h : PR R M p v) : NS p → PR R' M p v := by
  induction h with
  | lit v h => exact fun _ => .lit v h
  | rows es a cap g off sz us ha hn hsz hc _ ih =>
    intro hp
    cases hp with
    | rows _ hp => exact .rows es a cap g off sz us ha hn hsz hc (fun i hi j hj => ih i hi j hj (hp _ (List.getElem_mem hi) _ (List.getElem_mem hj)))
  | opq ne lo hi s hne hlo hhi => exact fun _ => .opq ne lo hi s hne hlo hhi
  | rng lo hi n hlo hhi => exact fun _ => .rng lo hi n hlo hhi
  | sym i v _ _ => exact fun hp => by cases hp
  | any v h => exact fun _ => .any v h
inductive NSA : AV → Prop where
  | pv (p : PV) (h : NS p) : NSA (.pv p)
  | trows (t : Nat) (es : List (List PV)) (h : ∀ c ∈ es, ∀ p ∈ c, NS p) : NSA (.trows t es)
  | ptr (i o : Nat) : NSA (.ptr i o)
  | cptr (cs : List PV) (h : ∀ p ∈ cs, NS p) : NSA (.cptr cs)
  | agg (l : List AV) (h : ∀ a ∈ l, NSA a) : NSA (.agg l)
  | tup (l : List AV) (h : ∀ a ∈ l, NSA a) : NSA (.tup l)
  | fn (f : Nat) (l : List AV) (h : ∀ a ∈ l, NSA a) : NSA (.fn f l)
  | sl (t lo len sz : Nat) : NSA (.sl t lo len sz)
  | mp (t : Nat) : NSA (.mp t)
  | ifc (t : TypeId) (v : AV) (h : NSA v) : NSA (.ifc t v)
def Kn.re (K : Kn) (R : Nat → PV) : Kn := { K with R := R }
theorem VR.swap {K : Kn} {R : Nat → PV} {a : AV} {v : Value} (h : VR K a v) : NSA a → VR (K.re R) a v := by
  induction h with
  | pv h => intro hn; cases hn with | pv _ hn => exact .pv (h.swap hn)
  | trows t es g us hm hn hsz hc hr =>
    intro hp
    cases hp with
    | trows _ _ hp => exact .trows (K := K.re R) t es g us hm hn hsz hc (fun i hi j hj => (hr i hi j hj).swap (hp _ (List.getElem_mem hi) _ (List.getElem_mem hj)))
  | tsym => intro hp; cases hp
  | ptr i o g hm => exact fun _ => .ptr i o g hm
  | cptr cs g o us hc hr =>
    intro hp
    cases hp with
    | cptr _ hp => exact .cptr (K := K.re R) cs g o us hc (fun j hj => (hr j hj).swap (hp _ (List.getElem_mem hj)))
  | agg l cs hl _ ih =>
    intro hp
    cases hp with
    | agg _ hp => exact .agg l cs hl (fun i hi hi' => ih i hi hi' (hp _ (List.getElem_mem hi)))
  | tup l cs hl _ ih =>
    intro hp
    cases hp with
    | tup _ hp => exact .tup l cs hl (fun i hi hi' => ih i hi hi' (hp _ (List.getElem_mem hi)))
  | fn f l cs hl _ ih =>
    intro hp
    cases hp with
    | fn _ _ hp => exact .fn f l cs hl (fun i hi hi' => ih i hi hi' (hp _ (List.getElem_mem hi)))
  | sl t lo len sz g cap off hm he hl hz hof => exact fun _ => .sl (K := K.re R) t lo len sz g cap off hm he hl hz hof
  | mp t g hm => exact fun _ => .mp (K := K.re R) t g hm
  | ifc t _ ih => intro hp; cases hp with | ifc _ _ hp => exact .ifc t (ih hp)
theorem Kn.re_re (K : Kn) (R : Nat → PV) : (K.re R).re K.R = K := rfl
/-- An object, its names read. -/
def openO (R : Nat → PV) : AObj → AObj
  | .box ty cells => .box ty (openAVs R cells)
  | .tok ty sz len => .tok ty sz (dl R len)
  | .dead => .dead
  | .mp ks vs => .mp ks (openAVs R vs)
inductive NSO : AObj → Prop where
  | box (ty : TypeId) (l : List AV) (h : ∀ a ∈ l, NSA a) : NSO (.box ty l)
  | tok (ty : TypeId) (sz len : Nat) (h : len < symBase) : NSO (.tok ty sz len)
  | dead : NSO .dead
  | mp (ks : List Value) (l : List AV) (h : ∀ a ∈ l, NSA a) : NSO (.mp ks l)
theorem openO_live (R : Nat → PV) (x : AObj) : (openO R x).live = x.live := by cases x <;> rfl
theorem VL.opened {K : Kn} {l : List AV} {us : List Value} (h : VL K l us) : VL K (openAVs K.R l) us := by
  rw [openAVs_eq]
  exact ⟨by simpa using h.1, fun i hi hi' => by simpa using (h.2 i (by simpa using hi) hi').opened rfl⟩
theorem VL.closed {K : Kn} {l : List AV} {us : List Value} (h : VL K (openAVs K.R l) us) : VL K l us := by
  rw [openAVs_eq] at h
  exact ⟨by simpa using h.1, fun i hi hi' => by have := h.2 i (by simpa using hi) hi'; rw [List.getElem_map] at this; exact this.closed rfl⟩
theorem VL.swap {K : Kn} {R : Nat → PV} {l : List AV} {us : List Value} (h : VL K l us) (hn : ∀ a ∈ l, NSA a) : VL (K.re R) l us := ⟨h.1, fun i hi hi' => (h.2 i hi hi').swap (hn _ (List.getElem_mem hi))⟩
/-- Two heaps that say the same of every world, with other names. -/
structure HSame (K K' : Kn) (h h' : List AObj) : Prop where
  M : K'.M = K.M
  Z : K'.Z = K.Z
  E : K'.E = K.E
  mu : K'.mu = K.mu
  len : h'.length = h.length
  at_ : ∀ (i : Nat) x', h'[i]? = some x' → ∃ x, h[i]? = some x ∧ x'.live = x.live ∧
    (∀ ty l', x' = .box ty l' → ∃ l, x = .box ty l ∧ l'.length = l.length ∧ ∀ us, VL K l us → VL K' l' us) ∧
    (∀ ty sz n', x' = .tok ty sz n' → ∃ n, x = .tok ty sz n ∧ dl K'.R n' = dl K.R n) ∧
    (∀ ks l', x' = .mp ks l' → ∃ l, x = .mp ks l ∧ ∀ us, VL K l us → VL K' l' us)
theorem WR.of_same {K K' : Kn} {h h' : List AObj} {w : World} (H : WR K h w) (s : HSame K K' h h') : WR K' h' w := by
  refine ⟨fun i hi => ?_, fun i hi => ?_, fun i g hi => ?_, fun i ty cells hi => ?_, fun i ks vs hi => ?_, fun t ty sz len ht => ?_, fun i j x y g hi hj hlx hly hmi hmj => ?_, fun i ty cells g hi hm o => ?_, fun g o v hm => ?_⟩
  · rw [s.mu]; exact H.fresh i (by rw [← s.len]; exact hi)
  · rw [s.mu]; exact H.has i (by rw [← s.len]; exact hi)
  · rw [s.mu] at hi; exact H.lt i g hi
  · obtain ⟨x, hx, _, hb, _, _⟩ := s.at_ i _ hi
    obtain ⟨l, rfl, hlen, hv⟩ := hb ty cells rfl
    obtain ⟨g, cs, h1, h2, h3, h4⟩ := H.box i ty l hx
    exact ⟨g, cs, by rw [s.mu]; exact h1, h2, by rw [s.Z, s.E]; exact h3, by rw [hlen]; exact hv _ h4⟩
  · obtain ⟨x, hx, _, _, _, hb⟩ := s.at_ i _ hi
    obtain ⟨l, rfl, hv⟩ := hb ks vs rfl
    obtain ⟨g, ents, clock, h1, h2, h3⟩ := H.map i ks l hx
    exact ⟨g, ents, clock, by rw [s.mu]; exact h1, h2, h3.1, hv _ h3.2⟩
  · obtain ⟨x, hx, _, _, hb, _⟩ := s.at_ t _ ht
    obtain ⟨n, rfl, hv⟩ := hb ty sz len rfl
    obtain ⟨g, cs, h1, h2, h3, h4, h5, h6⟩ := H.tok t ty sz n hx
    exact ⟨g, cs, by rw [s.mu]; exact h1, h2, by rw [s.Z]; exact h3, by rw [s.E]; exact h4, by rw [s.Z]; exact h5, by rw [hv, s.M]; exact h6⟩
  · obtain ⟨x0, hx, hl, _⟩ := s.at_ i _ hi
    obtain ⟨y0, hy, hl2, _⟩ := s.at_ j _ hj
    rw [s.mu] at hmi hmj
    exact H.inj i j x0 y0 g hx hy (by rw [← hl]; exact hlx) (by rw [← hl2]; exact hly) hmi hmj
  · obtain ⟨x, hx, _, hb, _, _⟩ := s.at_ i _ hi
    obtain ⟨l, rfl, _, hv⟩ := hb ty cells rfl
    rw [s.mu] at hm
    rw [s.M]; exact H.apart i ty l g hx hm o
  · rw [s.M] at hm; exact H.agr g o v hm
theorem HSame.live {K K' : Kn} {h h' : List AObj} (s : HSame K K' h h') {b : Nat} (hb : K'.liveB h' b) : K.liveB h b := by
  obtain ⟨i, x, hi, hl, hm⟩ := hb
  obtain ⟨x0, hx, hl2, _⟩ := s.at_ i _ hi
  exact ⟨i, x0, hx, by rw [← hl2]; exact hl, by rw [← s.mu]; exact hm⟩
theorem Step.of_same {K Ka Ka' : Kn} {h ha ha' h' : List AObj} {w w' : World} (s1 : HSame K Ka h ha) (S : Step Ka ha w Ka' ha' w') (s2 : HSame Ka' (Ka'.re K.R) ha' h') : Step K h w (Ka'.re K.R) h' w' where
  wr := S.wr.of_same s2
  ext := ⟨fun g o v hm => S.ext.M g o v (by rw [s1.M]; exact hm), fun i g hm => S.ext.mu i g (by rw [s1.mu]; exact hm), fun i g hm => (S.ext.Z i g (by rw [s1.mu]; exact hm)).trans (by rw [s1.Z]), fun i g hm => (S.ext.E i g (by rw [s1.mu]; exact hm)).trans (by rw [s1.E]), rfl⟩
  frm := S.frm.mono fun _ _ hb => s1.live hb
  zs := fun g hg => ⟨(S.zs g hg).1.trans (by rw [s1.Z]), (S.zs g hg).2.trans (by rw [s1.E])⟩
  ms := fun g o hg hl => (S.ms g o hg fun hb => hl (s1.live hb)).trans (by rw [s1.M])
  mu := fun k b hk => by
    rcases S.mu k b hk with h | h | h
    · exact .inl (by rw [← s1.mu]; exact h)
    · exact .inr (.inl h)
    · exact .inr (.inr (s1.live h))
  live := fun b hb hlt => s1.live (S.live b (s2.live hb) hlt)
  len := by rw [← s1.len, s2.len]; exact S.len
/-- A heap without names. -/
theorem HSame.plain {K : Kn} {R : Nat → PV} {h : List AObj} (hb : ∀ x ∈ h, NSO x) : HSame K (K.re R) h h := by
  refine ⟨rfl, rfl, rfl, rfl, rfl, fun i x hx => ⟨x, hx, rfl, fun ty l e => ?_, fun ty sz n e => ?_, fun ks l e => ?_⟩⟩
  · subst e
    have := hb _ (List.mem_of_getElem? hx)
    cases this with | box _ _ hn => exact ⟨l, rfl, rfl, fun us hv => hv.swap hn⟩
  · subst e
    have := hb _ (List.mem_of_getElem? hx)
    cases this with | tok _ _ _ hn => exact ⟨n, rfl, (dl_small hn).trans (dl_small hn).symm⟩
  · subst e
    have := hb _ (List.mem_of_getElem? hx)
    cases this with | mp _ _ hn => exact ⟨l, rfl, fun us hv => hv.swap hn⟩
theorem openAVs_len (R : Nat → PV) (l : List AV) : (openAVs R l).length = l.length := by rw [openAVs_eq, List.length_map]
/-- Heaps with names, and with the names read. -/
theorem HSame.opened {K : Kn} {R : Nat → PV} {h : List AObj} (hb : ∀ x ∈ h.map (openO K.R), NSO x) : HSame K (K.re R) h (h.map (openO K.R)) := by
  refine ⟨rfl, rfl, rfl, rfl, by simp, fun i x' hx' => ?_⟩
  have hns := hb x' (List.mem_of_getElem? hx')
  rw [List.getElem?_map] at hx'
  obtain ⟨x, hx, e⟩ := map_some' hx'
  subst e
  refine ⟨x, hx, openO_live _ x, fun ty l' e => ?_, fun ty sz n' e => ?_, fun ks l' e => ?_⟩
  · cases x with
    | box ty0 l =>
      cases e
      cases hns with
      | box _ _ hn => exact ⟨l, rfl, openAVs_len _ _, fun us hv => hv.opened.swap hn⟩
    | tok => cases e
    | dead => cases e
    | mp => cases e
  · cases x with
    | box => cases e
    | tok ty0 sz0 n =>
      cases e
      cases hns with
      | tok _ _ _ hn => exact ⟨n, rfl, dl_small hn⟩
    | dead => cases e
    | mp => cases e
  · cases x with
    | box => cases e
    | tok => cases e
    | dead => cases e
    | mp ks0 l =>
      cases e
      cases hns with
      | mp _ _ hn => exact ⟨l, rfl, fun us hv => hv.opened.swap hn⟩
theorem HSame.closed {K : Kn} {R : Nat → PV} {h : List AObj} (hb : ∀ x ∈ h.map (openO R), NSO x) : HSame K (K.re R) (h.map (openO R)) h := by
  refine ⟨rfl, rfl, rfl, rfl, by simp, fun i x hx => ?_⟩
  have hx2 : (h.map (openO R))[i]? = some (openO R x) := by rw [List.getElem?_map, hx]; rfl
  have hns := hb _ (List.mem_of_getElem? hx2)
  refine ⟨openO R x, hx2, (openO_live _ x).symm, fun ty l' e => ?_, fun ty sz n' e => ?_, fun ks l' e => ?_⟩
  · subst e
    cases hns with
    | box _ _ hn => exact ⟨_, rfl, (openAVs_len _ _).symm, fun us hv => VL.closed (K := K.re R) (hv.swap hn)⟩
  · subst e
    cases hns with
    | tok _ _ _ hn => exact ⟨_, rfl, (dl_small hn).symm⟩
  · subst e
    cases hns with
    | mp _ _ hn => exact ⟨_, rfl, fun us hv => VL.closed (K := K.re R) (hv.swap hn)⟩
theorem open_pan (R : Nat → PV) (v : AV) : panOf (openAV R v) = (panOf v).map (openAV R) := by
  have key : ∀ a : AV, (∃ m, openAV R a = .tup m) → ∃ m, a = .tup m := by
    intro a ⟨m, h⟩
    cases a with
    | tup l => exact ⟨l, rfl⟩
    | tsym t i =>
      rw [openAV] at h
      split at h <;> cases h
    | _ => rw [openAV] at h; cases h
  cases hv : panOf v with
  | some x =>
    rw [panOf_some hv, openAV, openAVs, openAVs, openAVs, openAV, openAVs]
    rfl
  | none =>
    cases ho : panOf (openAV R v) with
    | none => rfl
    | some y =>
      exfalso
      have e := panOf_some ho
      obtain ⟨l, rfl⟩ := key v ⟨_, e⟩
      rw [openAV] at e
      injection e with e
      match l, e with
      | [], e => rw [openAVs] at e; cases e
      | [a], e => rw [openAVs, openAVs] at e; injection e with _ e; cases e
      | a :: b :: c :: r, e => rw [openAVs, openAVs, openAVs] at e; injection e with _ e; injection e with _ e; cases e
      | [a, b], e =>
        rw [openAVs, openAVs, openAVs] at e
        injection e with e1 e2
        obtain ⟨m, rfl⟩ := key a ⟨_, e1⟩
        rw [openAV] at e1
        injection e1 with e1
        cases m with
        | nil => cases hv
        | cons _ _ => rw [openAVs] at e1; cases e1
theorem EndR.opened {K : Kn} {v : AV} {e : Ending} (h : EndR K v e) : EndR K (openAV K.R v) e := by
  refine h.map (fun x hx => ⟨openAV K.R x, by rw [open_pan, hx]; rfl, fun u hu => hu.opened rfl⟩) (fun hn => ⟨by rw [open_pan, hn]; rfl, fun u hu => hu.opened rfl⟩)
theorem EndR.closed {K : Kn} {v : AV} {e : Ending} (h : EndR K (openAV K.R v) e) : EndR K v e := by
  refine h.map (fun x hx => ?_) (fun hn => ?_)
  · rw [open_pan] at hx
    obtain ⟨y, hy, rfl⟩ := map_some' hx
    exact ⟨y, hy, fun u hu => hu.closed rfl⟩
  · rw [open_pan] at hn
    refine ⟨?_, fun u hu => hu.closed rfl⟩
    cases hv : panOf v with
    | none => rfl
    | some x => rw [hv] at hn; cases hn
theorem EndR.swap {K : Kn} {R : Nat → PV} {v : AV} {e : Ending} (h : EndR K v e) (hn : NSA v) : EndR (K.re R) v e := by
  refine h.map (fun x hx => ⟨x, hx, fun u hu => hu.swap ?_⟩) (fun hp => ⟨hp, fun u hu => hu.swap hn⟩)
  rw [panOf_some hx] at hn
  cases hn with
  | tup _ hl => exact hl x (by simp)
theorem CallOk.to {P : Program} {R R' : Nat → PV} {f : Nat} {args args' : List AV} {h ha ha' h' : List AObj} {v v' : AV} (hc : CallOk R' P f args' ha v' ha')
    (hargs : ∀ K us, K.R = R → VL K args us → VL (K.re R') args' us) (hh : ∀ K, K.R = R → HSame K (K.re R') h ha) (hh' : ∀ K, K.R = R' → HSame K (K.re R) ha' h')
    (hv : ∀ K e, K.R = R' → EndR K v' e → EndR (K.re R) v e) : CallOk R P f args h v h' := by
  intro K w us hR W hvl
  have h1 := hh K hR
  refine (hc (K.re R') w us rfl (W.of_same h1) (hargs K us hR hvl)).mono ?_
  rintro e w' ⟨K', hu, hst⟩
  have hR' : K'.R = R' := hst.ext.R
  have h2 := hh' K' hR'
  subst hR
  exact ⟨K'.re K.R, hv K' e hR' hu, Step.of_same h1 hst h2⟩
/-- A contract at values, for the names of a run. -/
theorem CallOk.names {P : Program} {R : Nat → PV} {f : Nat} {args : List AV} {h h' : List AObj} {v : AV} (hc : ∀ R', CallOk R' P f (openAVs R args) (h.map (openO R)) (openAV R v) (h'.map (openO R)))
    (n1 : ∀ x ∈ h.map (openO R), NSO x) (n2 : ∀ x ∈ h'.map (openO R), NSO x) : CallOk R P f args h v h' := by
  refine (hc R).to (fun K us hR hv => ?_) (fun K hR => ?_) (fun K hR => ?_) (fun K u hR hv => ?_)
  · subst hR; exact hv.opened
  · subst hR; exact HSame.opened n1
  · subst hR; exact HSame.closed n2
  · subst hR; exact EndR.closed hv
/-- A run with names, at values. -/
theorem CallOk.values {P : Program} {R : Nat → PV} {f : Nat} {args : List AV} {h h' : List AObj} {v : AV} (hc : CallOk R P f args h v h')
    (a1 : ∀ a ∈ openAVs R args, NSA a) (a2 : NSA (openAV R v)) (n1 : ∀ x ∈ h.map (openO R), NSO x) (n2 : ∀ x ∈ h'.map (openO R), NSO x) (R' : Nat → PV) :
    CallOk R' P f (openAVs R args) (h.map (openO R)) (openAV R v) (h'.map (openO R)) := by
  refine hc.to (fun K us hR hv => ?_) (fun K hR => ?_) (fun K hR => ?_) (fun K u hR hv => ?_)
  · exact VL.closed (K := K.re R) (hv.swap a1)
  · exact HSame.closed n1
  · subst hR; exact HSame.opened n2
  · subst hR; exact hv.opened.swap a2
/-! The plain side of values. -/
def isNilP : PV → Bool
  | .lit (.slice none 0 0) => true
  | _ => false
theorem isNilP_eq {p : PV} (h : isNilP p = true) : p = .lit (.slice none 0 0) := by
  unfold isNilP at h
  split at h
  · rfl
  · cases h
def wkP (p : PV) : PV := if isNilP p then .rows [] else p
mutual
def wk : AV → AV
  | .pv p => .pv (wkP p)
  | .trows _ es => .pv (.rows es)
  | .tsym _ i => .pv (.sym i)
  | .agg l => .agg (wks l)
  | .tup l => .tup (wks l)
  | .fn f l => .fn f (wks l)
  | .ptr i o => .ptr i o
  | .cptr cs => .cptr cs
  | .sl t lo len sz => .sl t lo len sz
  | .mp t => .mp t
  | .ifc t v => .ifc t (wk v)
def wks : List AV → List AV
  | [] => []
  | a :: l => wk a :: wks l
end
theorem wks_eq : ∀ l, wks l = l.map wk
  | [] => by rw [wks]; rfl
  | a :: l => by rw [wks, wks_eq l]; rfl
theorem PR.nilRow {R : Nat → PV} {M : Nat → Nat → Option Value} : PR R M (.rows []) (.slice none 0 0) :=
  .rows [] none 0 0 0 0 (fun _ _ => .bool false) (fun h => absurd rfl h) (Nat.le_refl _) (fun i h => by simp at h) (fun i h => by simp at h) (fun i h => by simp at h)
theorem VR.wk {K : Kn} {a : AV} {v : Value} (h : VR K a v) : VR K (wk a) v := by
  induction h with
  | pv h =>
    rw [YtjpjcjnacnlhdaaGreat.wk]
    unfold wkP
    split
    · rename_i hp
      rw [isNilP_eq hp] at h
      cases h; exact .pv PR.nilRow
    · exact .pv h
  | trows t es g us hm hn hsz hc hr => rw [YtjpjcjnacnlhdaaGreat.wk]; exact .pv ((VR.trows t es g us hm hn hsz hc hr).toPV rfl)
  | tsym t i es hi h _ => rw [YtjpjcjnacnlhdaaGreat.wk]; exact .pv ((VR.tsym t i es hi h).toPV rfl)
  | ptr i o g hm => rw [YtjpjcjnacnlhdaaGreat.wk]; exact .ptr i o g hm
  | cptr cs g o us hc hr => rw [YtjpjcjnacnlhdaaGreat.wk]; exact .cptr cs g o us hc hr
  | agg l cs hl _ ih => rw [YtjpjcjnacnlhdaaGreat.wk, wks_eq]; exact .agg _ cs (by simpa using hl) (fun i hi hi' => by simpa using ih i (by simpa using hi) hi')
  | tup l cs hl _ ih => rw [YtjpjcjnacnlhdaaGreat.wk, wks_eq]; exact .tup _ cs (by simpa using hl) (fun i hi hi' => by simpa using ih i (by simpa using hi) hi')
  | fn f l cs hl _ ih => rw [YtjpjcjnacnlhdaaGreat.wk, wks_eq]; exact .fn f _ cs (by simpa using hl) (fun i hi hi' => by simpa using ih i (by simpa using hi) hi')
  | sl t lo len sz g cap off a b c d f => rw [YtjpjcjnacnlhdaaGreat.wk]; exact .sl t lo len sz g cap off a b c d f
  | mp t g a => rw [YtjpjcjnacnlhdaaGreat.wk]; exact .mp t g a
  | ifc t _ ih => rw [YtjpjcjnacnlhdaaGreat.wk]; exact .ifc t ih
theorem VL.wk {K : Kn} {l : List AV} {us : List Value} (h : VL K l us) : VL K (wks l) us := by
  rw [wks_eq]
  exact ⟨by simpa using h.1, fun i hi hi' => by simpa using (h.2 i (by simpa using hi) hi').wk⟩
theorem wk_pan (v : AV) : panOf (wk v) = (panOf v).map wk := by
  have key : ∀ a : AV, (∃ m, wk a = .tup m) → ∃ m, a = .tup m := by
    intro a ⟨m, h⟩
    cases a with
    | tup l => exact ⟨l, rfl⟩
    | _ => rw [wk] at h; cases h
  cases hv : panOf v with
  | some x =>
    rw [panOf_some hv, wk, wks, wks, wks, wk, wks]
    rfl
  | none =>
    cases ho : panOf (wk v) with
    | none => rfl
    | some y =>
      exfalso
      have e := panOf_some ho
      obtain ⟨l, rfl⟩ := key v ⟨_, e⟩
      rw [wk] at e
      injection e with e
      match l, e with
      | [], e => rw [wks] at e; cases e
      | [a], e => rw [wks, wks] at e; injection e with _ e; cases e
      | a :: b :: c :: r, e => rw [wks, wks, wks] at e; injection e with _ e; injection e with _ e; cases e
      | [a, b], e =>
        rw [wks, wks, wks] at e
        injection e with e1 e2
        obtain ⟨m, rfl⟩ := key a ⟨_, e1⟩
        rw [wk] at e1
        injection e1 with e1
        cases m with
        | nil => cases hv
        | cons _ _ => rw [wks] at e1; cases e1
theorem EndR.wk {K : Kn} {v : AV} {e : Ending} (h : EndR K v e) : EndR K (YtjpjcjnacnlhdaaGreat.wk v) e :=
  h.map (fun x hx => ⟨YtjpjcjnacnlhdaaGreat.wk x, by rw [wk_pan, hx]; rfl, fun u hu => hu.wk⟩) (fun hn => ⟨by rw [wk_pan, hn]; rfl, fun u hu => hu.wk⟩)
/-- A call, at the plain sides of its arguments, with the objects that these lead to. -/
def callX (call : Nat → List AV → List AObj → Option (AV × List AObj)) (f : Nat) (args : List AV) (h : List AObj) : Option (AV × List AObj) := match call f args h with
  | some r => some r
  | none => match doCall call f (wks args) h with
    | some (v, h', _) => some (v, h')
    | none => none
theorem callX_ok {P : Program} {R : Nat → PV} {call : Nat → List AV → List AObj → Option (AV × List AObj)} (hc : CallsOk R P call) : CallsOk R P (callX call) := by
  intro f args h v h' he
  unfold callX at he
  split at he
  · rename_i r hr
    cases he
    exact hc _ _ _ _ _ hr
  · split at he
    · rename_i v1 h1 ids hd
      cases he
      obtain ⟨hs, args', v0, hs', q1, q2, q3, q4, q5, q6⟩ := doCall_spec hd (fun hr => renL_none _ _ hr)
      intro K w us hR W hvl
      refine (hc _ _ _ _ _ q4 (K.sub ids) w us hR (W.sub q1 q2) (renL_sound (Ren.sub K ids) hvl.wk q3)).mono ?_
      rintro e w' ⟨K', hu, hst⟩
      obtain ⟨m1, m2, _⟩ := merge_sound W q1 q2 hst q6
      exact ⟨_, hu.ren m2 q5, m1⟩
    · cases he
/-- What a call leaves is not asked for. -/
theorem CallOk.forget {P : Program} {R : Nat → PV} {f : Nat} {args : List AV} {v : AV} {h' : List AObj} (hc : CallOk R P f args [] v h') (hv : refs (YtjpjcjnacnlhdaaGreat.wk v) = []) : CallOk R P f args [] (YtjpjcjnacnlhdaaGreat.wk v) [] := by
  intro K w us hR W hvl
  refine (hc K w us hR W hvl).mono ?_
  rintro e w' ⟨K', hu, hst⟩
  have hf : finishA (YtjpjcjnacnlhdaaGreat.wk v) h' ([] : List AObj).length = some (YtjpjcjnacnlhdaaGreat.wk v, []) := by
    unfold finishA
    simp [hv]
  obtain ⟨f, K2, h1, h2, h3⟩ := finish_sound W hst hf
  exact ⟨K2, hu.wk.ren h1 h2, h3⟩
end Go.Proofs.YtjpjcjnacnlhdaaGreat
