/- Trees of paths. -/
import Derived.Test.YtjpjcjnacnlhdaaGreatAbT
namespace Go.Proofs.YtjpjcjnacnlhdaaGreat
open Go.RowKit

/-- Names by a list. -/
def nm (l : List PV) : Nat → PV := fun i => l.getD i .any
theorem nm_app {l ws : List PV} {i : Nat} (h : i < l.length) : nm (l ++ ws) i = nm l i := by
  unfold nm
  rw [List.getD_eq_getElem?_getD, List.getD_eq_getElem?_getD, List.getElem?_append_left h]
def NSL (l : List PV) : Prop := ∀ p ∈ l, NS p
theorem NSL.nm {l : List PV} (h : NSL l) (i : Nat) : NS (nm l i) := by
  unfold YtjpjcjnacnlhdaaGreat.nm
  rw [List.getD_eq_getElem?_getD]
  cases hi : l[i]? with
  | none => exact .any
  | some p => exact h p (List.mem_of_getElem? hi)
/-- A tree of paths: facts with new names; two ways; calls; blocks; what comes out. -/
inductive Tr where
  | say (f : SF) (m : Nat) (k : Tr)
  | alt (k l : Tr)
  | call (c : CE) (m : Nat) (k : Tr)
  | blk (b : BE) (m : Nat) (k : Tr)
  | code (ex : AExit) (e : Env) (h : List AObj)
  | ret (v : AV) (h : List AObj)
inductive Out where
  | code (ex : AExit) (e : Env) (h : List AObj)
  | ret (v : AV) (h : List AObj)
/-- Some new names. -/
def exN : Nat → List PV → (List PV → Prop) → Prop
  | 0, l, X => X l
  | m + 1, l, X => ∃ v, exN m (l ++ [v]) fun l' => X l' ∧ NS v
theorem exN_spec : ∀ {m : Nat} {l : List PV} {X : List PV → Prop}, exN m l X → NSL l → ∃ vs, vs.length = m ∧ NSL (l ++ vs) ∧ X (l ++ vs) := by
  have key : ∀ {m : Nat} {l : List PV} {X : List PV → Prop}, exN m l X → ∃ vs, vs.length = m ∧ X (l ++ vs) ∧ NSL vs := by
    intro m
    induction m with
    | zero => intro l X h; exact ⟨[], rfl, by simpa [exN] using h, fun p hp => by cases hp⟩
    | succ m ih =>
      intro l X h
      obtain ⟨v, hv⟩ := h
      obtain ⟨vs, h1, ⟨h2, h3⟩, h4⟩ := ih hv
      refine ⟨v :: vs, by simp [h1], by simpa using h2, fun p hp => ?_⟩
      rcases List.mem_cons.1 hp with rfl | hp
      · exact h3
      · exact h4 p hp
  intro m l X h hn
  obtain ⟨vs, h1, h2, h3⟩ := key h
  refine ⟨vs, h1, fun p hp => ?_, h2⟩
  rcases List.mem_append.1 hp with hp | hp
  · exact hn p hp
  · exact h3 p hp
def bodyOf (fn : Func) : Code := match fn.body with
  | some c => c
  | none => .skip
theorem body_eq {fn : Func} (h : fn.body.isSome = true) : fn.body = some (bodyOf fn) := by
  unfold bodyOf
  cases hb : fn.body with
  | none => rw [hb] at h; cases h
  | some c => rfl
/-- What a call gives, at values. -/
def Sem (P : Program) (f : Nat) (args : List AV) (h : List AObj) (v : AV) (h' : List AObj) : Prop := ∀ R, CallOk R P f args h v h'
/-- What a block does, at values. -/
def BlkS (P : Program) (fn : Func) (id : Nat) (e : Env) (h : List AObj) (ex : AExit) (e' : Env) (h' : List AObj) : Prop := ∀ R, ∀ c' ∈ subs id (bodyOf fn), CodeOk R P fn.ntmps (.block id c') e h ex e' h'
def Den (P : Program) (fn : Func) : Tr → List PV → Out → Prop
  | .say f m k, l, o => exN m l fun l' => f.ok (nm l') P ∧ Den P fn k l' o
  | .alt a b, l, o => Den P fn a l o ∨ Den P fn b l o
  | .call c m k, l, o => exN m l fun l' => (Sem P c.f (openAVs (nm l') c.args) (openH (nm l') c.h) (openAV (nm l') c.v) (openH (nm l') c.h') ∧ TsH (nm l') c.h ∧ TsH (nm l') c.h') ∧ Den P fn k l' o
  | .blk b m k, l, o => exN m l fun l' => (BlkS P fn b.id (openE (nm l') b.e) (openH (nm l') b.h) b.ex (openE (nm l') b.e') (openH (nm l') b.h') ∧ TsH (nm l') b.h ∧ TsH (nm l') b.h') ∧ Den P fn k l' o
  | .code ex e h, l, o => o = .code ex (openE (nm l) e) (openH (nm l) h) ∧ TsE (nm l) e ∧ TsH (nm l) h
  | .ret v h, l, o => o = .ret (openAV (nm l) v) (openH (nm l) h) ∧ TsA (nm l) v ∧ TsH (nm l) h
def ltAll (n : Nat) : List Nat → Bool
  | [] => true
  | i :: l => Nat.blt i n && ltAll n l
theorem ltAll_spec {n : Nat} : ∀ {l : List Nat}, ltAll n l = true → ∀ i ∈ l, i < n
  | [], _, i, hi => by cases hi
  | j :: l, h, i, hi => by
    rw [ltAll, Bool.and_eq_true] at h
    rcases List.mem_cons.1 hi with rfl | hi
    · exact Nat.le_of_ble_eq_true h.1
    · exact ltAll_spec h.2 i hi
def namesC (c : CE) : List Nat := namesAs c.args ++ namesH c.h ++ namesA c.v ++ namesH c.h'
def namesB (b : BE) : List Nat := namesE b.e ++ namesH b.h ++ namesE b.e' ++ namesH b.h'
def chk (P : Program) (leaf : Out → List SF → List CE → List BE → Bool) : Tr → Nat → List SF → List CE → List BE → Bool
  | .say f m k, n, tab, cs, bs => ltAll (n + m) (namesF f) && chk P leaf k (n + m) (f :: tab) cs bs
  | .alt a b, n, tab, cs, bs => chk P leaf a n tab cs bs && chk P leaf b n tab cs bs
  | .call c m k, n, tab, cs, bs => ltAll (n + m) (namesC c) && (callable P c.f && chk P leaf k (n + m) tab (c :: cs) bs)
  | .blk b m k, n, tab, cs, bs => ltAll (n + m) (namesB b) && chk P leaf k (n + m) tab cs (b :: bs)
  | .code ex e h, _, tab, cs, bs => leaf (.code ex e h) tab cs bs
  | .ret v h, _, tab, cs, bs => leaf (.ret v h) tab cs bs
def openOut (R : Nat → PV) : Out → Out
  | .code ex e h => .code ex (openE R e) (openH R h)
  | .ret v h => .ret (openAV R v) (openH R h)
def TsOut (R : Nat → PV) : Out → Prop
  | .code _ e h => TsE R e ∧ TsH R h
  | .ret v h => TsA R v ∧ TsH R h
def CallG (P : Program) (l : List PV) (c : CE) : Prop := Sem P c.f (openAVs (nm l) c.args) (openH (nm l) c.h) (openAV (nm l) c.v) (openH (nm l) c.h') ∧ TsH (nm l) c.h ∧ TsH (nm l) c.h'
def BlkG (P : Program) (fn : Func) (l : List PV) (b : BE) : Prop := BlkS P fn b.id (openE (nm l) b.e) (openH (nm l) b.h) b.ex (openE (nm l) b.e') (openH (nm l) b.h') ∧ TsH (nm l) b.h ∧ TsH (nm l) b.h'
structure Inv (P : Program) (fn : Func) (l : List PV) (tab : List SF) (cs : List CE) (bs : List BE) : Prop where
  ns : NSL l
  tab : ∀ f ∈ tab, f.ok (nm l) P ∧ ∀ i ∈ namesF f, i < l.length
  cs : ∀ c ∈ cs, CallG P l c ∧ (∀ i ∈ namesC c, i < l.length) ∧ callable P c.f = true
  bs : ∀ b ∈ bs, BlkG P fn l b ∧ ∀ i ∈ namesB b, i < l.length
section
variable {P : Program} {fn : Func}
theorem TsH_congr {R R' : Nat → PV} (hR : ∀ i, R i = R' i) {h : List AObj} (ht : TsH R h) : TsH R' h := by
  have : R = R' := funext hR
  rw [← this]; exact ht
mutual
theorem TsA_congr {R R' : Nat → PV} : ∀ (a : AV), (∀ i ∈ namesA a, R i = R' i) → TsA R a → TsA R' a
  | .tsym t i, h, ht => by rw [TsA] at ht ⊢; rw [← h i (by simp [namesA])]; exact ht
  | .agg l, h, ht => by rw [TsA] at ht ⊢; exact TsAs_congr l (by rw [namesA] at h; exact h) ht
  | .tup l, h, ht => by rw [TsA] at ht ⊢; exact TsAs_congr l (by rw [namesA] at h; exact h) ht
  | .fn _ l, h, ht => by rw [TsA] at ht ⊢; exact TsAs_congr l (by rw [namesA] at h; exact h) ht
  | .pv _, _, _ => by rw [TsA]; trivial
  | .trows _ _, _, _ => by rw [TsA]; trivial
  | .ptr _ _, _, _ => by rw [TsA]; trivial
  | .cptr _, _, _ => by rw [TsA]; trivial
  | .sl _ _ _ _, _, _ => by rw [TsA]; trivial
  | .mp _, _, _ => by rw [TsA]; trivial
  | .ifc _ v, h, ht => by rw [TsA] at ht ⊢; exact TsA_congr v (by rw [namesA] at h; exact h) ht
theorem TsAs_congr {R R' : Nat → PV} : ∀ (l : List AV), (∀ i ∈ namesAs l, R i = R' i) → TsAs R l → TsAs R' l
  | [], _, _ => by rw [TsAs]; trivial
  | a :: l, h, ht => by
    rw [namesAs] at h
    rw [TsAs] at ht ⊢
    exact ⟨TsA_congr a (fun i hi => h i (List.mem_append_left _ hi)) ht.1, TsAs_congr l (fun i hi => h i (List.mem_append_right _ hi)) ht.2⟩
end
theorem TsO_congr {R R' : Nat → PV} (x : AObj) (h : ∀ i ∈ namesO x, R i = R' i) (ht : TsO R x) : TsO R' x := by
  cases x with
  | box ty l => exact TsAs_congr l h ht
  | mp ks l => exact TsAs_congr l h ht
  | dead => trivial
  | tok ty sz n =>
    have := openO_congr (.tok ty sz n) h
    simp only [openO, AObj.tok.injEq] at this
    show dl R' n < symBase
    rw [← this.2.2]; exact ht
theorem TsH_lift {R R' : Nat → PV} : ∀ (h : List AObj), (∀ i ∈ namesH h, R i = R' i) → TsH R h → TsH R' h
  | [], _, _ => trivial
  | x :: l, h, ht => by
    rw [namesH] at h
    exact ⟨TsO_congr x (fun i hi => h i (List.mem_append_left _ hi)) ht.1, TsH_lift l (fun i hi => h i (List.mem_append_right _ hi)) ht.2⟩
theorem CallG.lift {l ws : List PV} {c : CE} (h : CallG P l c) (hn : ∀ i ∈ namesC c, i < l.length) : CallG P (l ++ ws) c := by
  have e : ∀ i ∈ namesC c, nm l i = nm (l ++ ws) i := fun i hi => (nm_app (hn i hi)).symm
  simp only [namesC, List.mem_append] at e
  obtain ⟨h1, h2, h3⟩ := h
  refine ⟨?_, TsH_lift _ (fun i hi => e i (.inl (.inl (.inr hi)))) h2, TsH_lift _ (fun i hi => e i (.inr hi)) h3⟩
  rw [← openAVs_congr c.args (fun i hi => e i (.inl (.inl (.inl hi)))), ← openAV_congr c.v (fun i hi => e i (.inl (.inr hi))), ← openH_congr c.h (fun i hi => e i (.inl (.inl (.inr hi)))), ← openH_congr c.h' (fun i hi => e i (.inr hi))]
  exact h1
theorem BlkG.lift {l ws : List PV} {b : BE} (h : BlkG P fn l b) (hn : ∀ i ∈ namesB b, i < l.length) : BlkG P fn (l ++ ws) b := by
  have e : ∀ i ∈ namesB b, nm l i = nm (l ++ ws) i := fun i hi => (nm_app (hn i hi)).symm
  simp only [namesB, List.mem_append] at e
  obtain ⟨h1, h2, h3⟩ := h
  refine ⟨?_, TsH_lift _ (fun i hi => e i (.inl (.inl (.inr hi)))) h2, TsH_lift _ (fun i hi => e i (.inr hi)) h3⟩
  rw [← openE_congr b.e (fun i hi => e i (.inl (.inl (.inl hi)))), ← openE_congr b.e' (fun i hi => e i (.inl (.inr hi))), ← openH_congr b.h (fun i hi => e i (.inl (.inl (.inr hi)))), ← openH_congr b.h' (fun i hi => e i (.inr hi))]
  exact h1
theorem Inv.lift {l ws : List PV} {tab : List SF} {cs : List CE} {bs : List BE} (h : Inv P fn l tab cs bs) (hw : NSL (l ++ ws)) : Inv P fn (l ++ ws) tab cs bs := by
  have hlen : ∀ i, i < l.length → i < (l ++ ws).length := fun i hi => by simp; omega
  refine ⟨hw, fun f hf => ?_, fun c hc => ?_, fun b hb => ?_⟩
  · obtain ⟨h1, h2⟩ := h.tab f hf
    exact ⟨f.ok_congr (fun i hi => (nm_app (h2 i hi)).symm) h1, fun i hi => hlen i (h2 i hi)⟩
  · obtain ⟨h1, h2, h3⟩ := h.cs c hc
    exact ⟨h1.lift h2, fun i hi => hlen i (h2 i hi), h3⟩
  · obtain ⟨h1, h2⟩ := h.bs b hb
    exact ⟨h1.lift h2, fun i hi => hlen i (h2 i hi)⟩
/-- What is true of a tree is true of one of its ends. -/
theorem Inv.nil {l : List PV} (h : NSL l) : Inv P fn l [] [] [] := ⟨h, fun _ h => by simp at h, fun _ h => by simp at h, fun _ h => by simp at h⟩
theorem den_sound {leaf : Out → List SF → List CE → List BE → Bool} : ∀ (t : Tr) (l : List PV) (tab : List SF) (cs : List CE) (bs : List BE) (o : Out),
    chk P leaf t l.length tab cs bs = true → Inv P fn l tab cs bs → Den P fn t l o →
    ∃ (o' : Out) (ws : List PV) (tab' : List SF) (cs' : List CE) (bs' : List BE), o = openOut (nm (l ++ ws)) o' ∧ TsOut (nm (l ++ ws)) o' ∧ leaf o' tab' cs' bs' = true ∧ Inv P fn (l ++ ws) tab' cs' bs'
  | .say f m k, l, tab, cs, bs, o, hc, hi, hd => by
    rw [chk, Bool.and_eq_true] at hc
    rw [Den] at hd
    obtain ⟨vs, h1, h2, h3, h4⟩ := exN_spec hd hi.ns
    have hl : l.length + m = (l ++ vs).length := by simp [h1]
    rw [hl] at hc
    have hi' := hi.lift h2
    obtain ⟨o', ws, tab', cs', bs', q1, q2, q3, q4⟩ := den_sound k (l ++ vs) (f :: tab) cs bs o hc.2 ⟨hi'.ns, fun g hg => by
      rcases List.mem_cons.1 hg with rfl | hg
      · exact ⟨h3, ltAll_spec hc.1⟩
      · exact hi'.tab g hg, hi'.cs, hi'.bs⟩ h4
    exact ⟨o', vs ++ ws, tab', cs', bs', by rw [← List.append_assoc]; exact q1, by rw [← List.append_assoc]; exact q2, q3, by rw [← List.append_assoc]; exact q4⟩
  | .alt a b, l, tab, cs, bs, o, hc, hi, hd => by
    rw [chk, Bool.and_eq_true] at hc
    rw [Den] at hd
    rcases hd with hd | hd
    · exact den_sound a l tab cs bs o hc.1 hi hd
    · exact den_sound b l tab cs bs o hc.2 hi hd
  | .call c m k, l, tab, cs, bs, o, hc, hi, hd => by
    rw [chk, Bool.and_eq_true, Bool.and_eq_true] at hc
    obtain ⟨c1, c2, c4⟩ := hc
    rw [Den] at hd
    obtain ⟨vs, h1, h2, h3, h4⟩ := exN_spec hd hi.ns
    have hl : l.length + m = (l ++ vs).length := by simp [h1]
    rw [hl] at c1 c4
    have hi' := hi.lift h2
    obtain ⟨o', ws, tab', cs', bs', q1, q2, q3, q4⟩ := den_sound k (l ++ vs) tab (c :: cs) bs o c4 ⟨hi'.ns, hi'.tab, fun g hg => by
      rcases List.mem_cons.1 hg with rfl | hg
      · exact ⟨h3, ltAll_spec c1, c2⟩
      · exact hi'.cs g hg, hi'.bs⟩ h4
    exact ⟨o', vs ++ ws, tab', cs', bs', by rw [← List.append_assoc]; exact q1, by rw [← List.append_assoc]; exact q2, q3, by rw [← List.append_assoc]; exact q4⟩
  | .blk b m k, l, tab, cs, bs, o, hc, hi, hd => by
    rw [chk, Bool.and_eq_true] at hc
    rw [Den] at hd
    obtain ⟨vs, h1, h2, h3, h4⟩ := exN_spec hd hi.ns
    have hl : l.length + m = (l ++ vs).length := by simp [h1]
    rw [hl] at hc
    have hi' := hi.lift h2
    obtain ⟨o', ws, tab', cs', bs', q1, q2, q3, q4⟩ := den_sound k (l ++ vs) tab cs (b :: bs) o hc.2 ⟨hi'.ns, hi'.tab, hi'.cs, fun g hg => by
      rcases List.mem_cons.1 hg with rfl | hg
      · exact ⟨h3, ltAll_spec hc.1⟩
      · exact hi'.bs g hg⟩ h4
    exact ⟨o', vs ++ ws, tab', cs', bs', by rw [← List.append_assoc]; exact q1, by rw [← List.append_assoc]; exact q2, q3, by rw [← List.append_assoc]; exact q4⟩
  | .code ex e h, l, tab, cs, bs, o, hc, hi, hd => by
    rw [chk] at hc
    rw [Den] at hd
    exact ⟨.code ex e h, [], tab, cs, bs, by simpa [openOut] using hd.1, by simpa [TsOut] using hd.2, hc, by simpa using hi⟩
  | .ret v h, l, tab, cs, bs, o, hc, hi, hd => by
    rw [chk] at hc
    rw [Den] at hd
    exact ⟨.ret v h, [], tab, cs, bs, by simpa [openOut] using hd.1, by simpa [TsOut] using hd.2, hc, by simpa using hi⟩
def okfT (cs : List CE) (f : Nat) : Bool := cs.any fun c => Nat.beq c.f f
theorem Inv.calls {l : List PV} {tab : List SF} {cs : List CE} {bs : List BE} (h : Inv P fn l tab cs bs) : CallsOk (nm l) P (callX (callTab cs)) := by
  refine callX_ok (callTab_ok fun c hc => ?_)
  obtain ⟨⟨g1, g2, g3⟩, h2, h3⟩ := h.cs _ hc
  refine CallOk.names (fun R' => ?_) (by rw [← openH_eq]; exact openH_ns h.ns.nm _ g2) (by rw [← openH_eq]; exact openH_ns h.ns.nm _ g3)
  rw [← openH_eq, ← openH_eq]
  exact g1 R'
theorem Inv.okf {l : List PV} {tab : List SF} {cs : List CE} {bs : List BE} (h : Inv P fn l tab cs bs) : ∀ f, okfT cs f = true → callable P f = true := by
  intro f hf
  unfold okfT at hf
  rw [List.any_eq_true] at hf
  obtain ⟨c, hc, he⟩ := hf
  rw [← Nat.eq_of_beq_eq_true he]
  exact (h.cs c hc).2.2
theorem Inv.tabOk {l : List PV} {tab : List SF} {cs : List CE} {bs : List BE} (h : Inv P fn l tab cs bs) : TabOk (nm l) P (.names :: tab) := by
  intro f hf
  rcases List.mem_cons.1 hf with rfl | hf
  · trivial
  · exact (h.tab f hf).1
theorem Inv.blks {l : List PV} {tab : List SF} {cs : List CE} {bs : List BE} (h : Inv P fn l tab cs bs) {T : FT} {c : Code} (hs : ∀ id, subs id c ⊆ subs id (bodyOf fn)) (hT : T.lp = some (lpTab bs)) : LpOk (nm l) P fn.ntmps T c := by
  refine lpTab_ok hT fun b hb c' hc' => ?_
  obtain ⟨⟨g1, g2, g3⟩, _⟩ := h.bs b hb
  refine CodeOk.names (fun R' => ?_) (by rw [← openH_eq]; exact openH_ns h.ns.nm _ g2) (by rw [← openH_eq]; exact openH_ns h.ns.nm _ g3)
  rw [← openH_eq, ← openH_eq]
  exact g1 R' c' (hs _ hc')
/-! Functions. -/
def leafF (P : Program) (T : FT) (f : Nat) (args : List AV) (h : List AObj) : Out → List SF → List CE → List BE → Bool
  | .ret v h', tab, cs, bs => match runF P (callX (callTab cs)) (okfT cs) (.names :: tab) 0 { T with lp := some (lpTab bs) } f args h with
    | some (v1, h1) => eqB v1 v && eqHs h1 h'
    | none => false
  | _, _, _, _ => false
/-- A function by its tree. -/
theorem fun_rule {T : FT} {f : Nat} {args : List AV} {h : List AObj} {t : Tr} {k0 : Nat} (hf : P.funcs[f]? = some fn) (hb : fn.body.isSome = true) (hm : P.follows .mixedOrders = true) (ht : tabOk T.sd T.sx (bodyOf fn) = true)
    (hn : ltAll k0 (namesAs args ++ namesH h) = true) (hc : chk P (leafF P T f args h) t k0 [] [] [] = true) {l : List PV} (hl : l.length = k0) (hns : NSL l) (h1 : TsAs (nm l) args) (h2 : TsH (nm l) h) {v : AV} {h' : List AObj} (hd : Den P fn t l (.ret v h')) :
    Sem P f (openAVs (nm l) args) (openH (nm l) h) v h' := by
  subst hl
  obtain ⟨o', ws, tab, cs, bs, e, q2, q3, q4⟩ := den_sound t l [] [] [] _ hc (Inv.nil hns) hd
  cases o' with
  | code => cases e
  | ret v0 h0 =>
    cases e
    rw [leafF] at q3
    split at q3
    · rename_i v1 h1' hr
      rw [Bool.and_eq_true] at q3
      rw [eqB_eq _ _ q3.1, eqHs_eq q3.2] at hr
      have hbe := body_eq hb
      have hrun : CallOk (nm (l ++ ws)) P f args h v0 h0 := by
        refine runF_sound q4.calls q4.tabOk q4.okf hm (fun fn' c hf' hc => ?_) (fun fn' c hf' hc => ?_) hr
        · rw [hf] at hf'; cases hf'; rw [hbe] at hc; cases hc; exact ht
        · rw [hf] at hf'; cases hf'; rw [hbe] at hc; cases hc; exact q4.blks (fun _ _ h => h) rfl
      have hnn := ltAll_spec hn
      have e : ∀ i ∈ namesAs args ++ namesH h, nm (l ++ ws) i = nm l i := fun i hi => nm_app (hnn i hi)
      have e1 := openAVs_congr args (fun i hi => e i (List.mem_append_left _ hi))
      have e2 := openH_congr h (fun i hi => e i (List.mem_append_right _ hi))
      intro R
      have := hrun.values (by rw [e1]; exact openAVs_ns hns.nm _ h1) (openAV_ns q4.ns.nm _ q2.1) (by rw [← openH_eq, e2]; exact openH_ns hns.nm _ h2) (by rw [← openH_eq]; exact openH_ns q4.ns.nm _ q2.2) R
      rw [← openH_eq, ← openH_eq, e1, e2] at this
      exact this
    · cases q3
/-! Loops. -/
theorem subs_sub : ∀ (c : Code) (id : Nat) (x : Code), x ∈ subs id c → ∀ id' y, y ∈ subs id' x → y ∈ subs id' c
  | .seq a b, id, x, hx, id', y, hy => by
    rw [subs, List.mem_append] at hx ⊢
    rcases hx with hx | hx
    · exact .inl (subs_sub a id x hx id' y hy)
    · exact .inr (subs_sub b id x hx id' y hy)
  | .cond _ a b, id, x, hx, id', y, hy => by
    rw [subs, List.mem_append] at hx ⊢
    rcases hx with hx | hx
    · exact .inl (subs_sub a id x hx id' y hy)
    · exact .inr (subs_sub b id x hx id' y hy)
  | .block j c, id, x, hx, id', y, hy => by
    rw [subs, List.mem_append] at hx ⊢
    rcases hx with hx | hx
    · split at hx
      · rw [List.mem_singleton.1 hx] at hy; exact .inr hy
      · cases hx
    · exact .inr (subs_sub c id x hx id' y hy)
  | .loop c, id, x, hx, id', y, hy => by rw [subs] at hx ⊢; exact subs_sub c id x hx id' y hy
  | .scope c, id, x, hx, id', y, hy => by rw [subs] at hx ⊢; exact subs_sub c id x hx id' y hy
  | .skip, _, _, hx, _, _, _ => by simp [subs] at hx
  | .label _, _, _, hx, _, _, _ => by simp [subs] at hx
  | .region .., _, _, hx, _, _, _ => by simp [subs] at hx
  | .exit _, _, _, hx, _, _, _ => by simp [subs] at hx
  | .ret, _, _, hx, _, _, _ => by simp [subs] at hx
  | .rangeFunc .., _, _, hx, _, _, _ => by simp [subs] at hx
  | .goto _, _, _, hx, _, _, _ => by simp [subs] at hx
  | .refuse _, _, _, hx, _, _, _ => by simp [subs] at hx
/-- The body of the loop of a block. -/
def lb (fn : Func) (id : Nat) : Code := match subs id (bodyOf fn) with
  | [.loop d] => d
  | _ => .skip
def isLoop1 : List Code → Bool
  | [.loop _] => true
  | _ => false
theorem subs_loop {id : Nat} (h1 : isLoop1 (subs id (bodyOf fn)) = true) : ∀ d ∈ subs id (bodyOf fn), d = .loop (lb fn id) := by
  intro d hd
  unfold lb
  unfold isLoop1 at h1
  split at h1
  · rename_i e he
    rw [he] at hd
    simpa using hd
  · cases h1
theorem lb_sub {id : Nat} (h1 : isLoop1 (subs id (bodyOf fn)) = true) : ∀ id', subs id' (lb fn id) ⊆ subs id' (bodyOf fn) := by
  intro id' y hy
  unfold isLoop1 at h1
  split at h1
  · rename_i e he
    have hm : Code.loop e ∈ subs id (bodyOf fn) := by rw [he]; exact List.mem_singleton.2 rfl
    refine subs_sub _ id _ hm id' y ?_
    unfold lb at hy
    rw [he] at hy
    rw [subs]; exact hy
  · cases h1
def cmpI (m0 : Nat) (ks : List Nat) (ex : AExit) (sl : Env) (h : List AObj) (ids : List Nat) : Option (AExit × Env × List AObj × List Nat) := if nodupB ids && (ids.take m0 == List.range m0) then match subH h ids with
  | some h' => some (ex, compE (fun i => posOf i ids) sl ks, h', ids)
  | none => none
  else none
def cmpR (m0 : Nat) (ks : List Nat) (r : Option (AExit × Env × List AObj)) : Option (AExit × Env × List AObj × List Nat) := match r with
  | some (ex, sl, h) => cmpI m0 ks ex sl h (reach h 1000 ((h.take m0).flatMap refsO ++ (keepE ks sl).flatMap fun p => refs p.2) (List.range m0))
  | none => none
def eqX : AExit → AExit → Bool
  | .normal, .normal => true
  | .ret, .ret => true
  | .exit i, .exit j => Nat.beq i j
  | .pan, .pan => true
  | _, _ => false
theorem eqX_eq {a b : AExit} (h : eqX a b = true) : a = b := by
  unfold eqX at h
  split at h
  · rfl
  · rfl
  · rw [Nat.eq_of_beq_eq_true h]
  · rfl
  · cases h
def leafC (P : Program) (fn : Func) (T : FT) (c : Code) (m0 : Nat) (e : Env) (h : List AObj) : Out → List SF → List CE → List BE → Bool
  | .code ex e' h', tab, cs, bs => match cmpR m0 (slotsOf e') (acode P (callX (callTab cs)) (okfT cs) (.names :: tab) 0 fn.ntmps { T with lp := some (lpTab bs) } c e h) with
    | some (ex1, e1, h1, _) => eqX ex1 ex && eqEs e1 e' && eqHs h1 h'
    | none => false
  | _, _, _, _ => false
/-- A loop at values, from the head of a round on; m0 objects were there before it. -/
def LoopS (P : Program) (fn : Func) (id m0 : Nat) (e : Env) (h : List AObj) (ex : AExit) (e' : Env) (h' : List AObj) : Prop := ∀ R, LoopB R P fn.ntmps (lb fn id) m0 e h ex e' h'
theorem body_rule {T : FT} {id m0 : Nat} {e : Env} {h : List AObj} {t : Tr} {k0 : Nat} (hlo : isLoop1 (subs id (bodyOf fn)) = true) (hm : P.follows .mixedOrders = true) (ht : tabOk T.sd T.sx (lb fn id) = true)
    (hn : ltAll k0 (namesE e ++ namesH h) = true) (hc : chk P (leafC P fn T (lb fn id) m0 e h) t k0 [] [] [] = true) {l : List PV} (hl : l.length = k0) (hns : NSL l) (h1 : TsE (nm l) e) (h2 : TsH (nm l) h) {ex : AExit} {e' : Env} {h' : List AObj} (hd : Den P fn t l (.code ex e' h')) (R : Nat → PV) :
    CodeB R P fn.ntmps (lb fn id) m0 (openE (nm l) e) (openH (nm l) h) ex e' h' := by
  subst hl
  obtain ⟨o', ws, tab, cs, bs, eo, q2, q3, q4⟩ := den_sound t l [] [] [] _ hc (Inv.nil hns) hd
  cases o' with
  | ret => cases eo
  | code ex0 e0 h0 =>
    cases eo
    rw [leafC] at q3
    split at q3
    · rename_i ex1 e1 h1' ids hr
      rw [Bool.and_eq_true, Bool.and_eq_true] at q3
      rw [eqX_eq q3.1.1, eqEs_eq q3.1.2, eqHs_eq q3.2] at hr
      have hrun : CodeB (nm (l ++ ws)) P fn.ntmps (lb fn id) m0 e h ex e0 h0 := by
        unfold cmpR at hr
        split at hr
        · rename_i ex2 sl2 h2' hac
          unfold cmpI at hr
          split at hr
          · rename_i hcond
            rw [Bool.and_eq_true] at hcond
            split at hr
            · rename_i h3 hsub
              simp only [Option.some.injEq, Prod.mk.injEq] at hr
              obtain ⟨r1, r2, r3, _⟩ := hr
              subst r1
              rw [← r2, ← r3]
              exact CodeOk.toB (acode_sound (T := { T with lp := some (lpTab bs) }) q4.calls q4.tabOk q4.okf hm _ (q4.blks (lb_sub hlo) rfl) ht _ _ _ _ _ hac) hcond.1 (by simpa using hcond.2) hsub
            · cases hr
          · cases hr
        · cases hr
      have hnn := ltAll_spec hn
      have en : ∀ i ∈ namesE e ++ namesH h, nm (l ++ ws) i = nm l i := fun i hi => nm_app (hnn i hi)
      have e1' := openE_congr e (fun i hi => en i (List.mem_append_left _ hi))
      have e2' := openH_congr h (fun i hi => en i (List.mem_append_right _ hi))
      have := hrun.values (by rw [e1']; exact openE_ns hns.nm _ h1) (openE_ns q4.ns.nm _ q2.1) (by rw [← openH_eq, e2']; exact openH_ns hns.nm _ h2) (by rw [← openH_eq]; exact openH_ns q4.ns.nm _ q2.2) R
      rw [← openH_eq, ← openH_eq, e1', e2'] at this
      exact this
    · cases q3
/-- One more round. -/
theorem LoopS.again {id m0 : Nat} {e e1 e' : Env} {h h1 h' : List AObj} {ex : AExit} (hb : ∀ R, CodeB R P fn.ntmps (lb fn id) m0 e h .normal e1 h1) (hl : LoopS P fn id m0 e1 h1 ex e' h') : LoopS P fn id m0 e h ex e' h' := fun R => LoopB.again (hb R) (hl R)
/-- The last round. -/
theorem LoopS.done {id m0 : Nat} {e e' : Env} {h h' : List AObj} {ex : AExit} (hb : ∀ R, CodeB R P fn.ntmps (lb fn id) m0 e h ex e' h') (hx : ex ≠ .normal) : LoopS P fn id m0 e h ex e' h' := fun R => LoopB.done (hb R) hx
theorem LoopS.block {id : Nat} {e e' : Env} {h h' : List AObj} (hlo : isLoop1 (subs id (bodyOf fn)) = true) (hn : ∀ x ∈ h, NSO x) (hl : LoopS P fn id h.length e h (.exit id) e' h') : BlkS P fn id e h .normal e' h' := fun R c' hc' => by
  rw [subs_loop hlo c' hc']; exact (hl R).block hn
theorem LoopS.blockRet {id : Nat} {e e' : Env} {h h' : List AObj} (hlo : isLoop1 (subs id (bodyOf fn)) = true) (hn : ∀ x ∈ h, NSO x) (hl : LoopS P fn id h.length e h .ret e' h') : BlkS P fn id e h .ret e' h' := fun R c' hc' => by
  rw [subs_loop hlo c' hc']; exact (hl R).blockRet hn
theorem LoopS.blockPan {id : Nat} {e e' : Env} {h h' : List AObj} (hlo : isLoop1 (subs id (bodyOf fn)) = true) (hn : ∀ x ∈ h, NSO x) (hl : LoopS P fn id h.length e h .pan e' h') : BlkS P fn id e h .pan e' h' := fun R c' hc' => by
  rw [subs_loop hlo c' hc']; exact (hl R).blockPan hn
theorem LoopS.blockOut {id j : Nat} {e e' : Env} {h h' : List AObj} (hne : j ≠ id) (hlo : isLoop1 (subs id (bodyOf fn)) = true) (hn : ∀ x ∈ h, NSO x) (hl : LoopS P fn id h.length e h (.exit j) e' h') : BlkS P fn id e h (.exit j) e' h' := fun R c' hc' => by
  rw [subs_loop hlo c' hc']; exact (hl R).blockOut hne hn
end
end Go.Proofs.YtjpjcjnacnlhdaaGreat
