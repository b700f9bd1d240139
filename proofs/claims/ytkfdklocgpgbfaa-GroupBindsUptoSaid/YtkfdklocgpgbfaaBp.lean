/- Joined texts. -/
import Derived.Test.YtkfdklocgpgbfaaBl
import Derived.Test.YtkfdklocgpgbfaaProg
import Derived.WalkKit
import Derived.WalkSpells
import Derived.WalkLawsBesides
import Derived.Deep.LoopGhost
import Derived.Deep.QuietTactic
import Derived.Deep.OwnRows
import Derived.BigQuiet
import Derived.Laws.AppendOwn
import Derived.Laws.OwnMore
import Derived.Below
import Derived.Handy
import Derived.OwnWalk
import Derived.Lib.Hide
import Derived.Deep.Heap
set_option linter.unusedVariables false
set_option linter.unusedSimpArgs false
set_option linter.unusedSectionVars false
namespace Go.Proofs.Ytkfdklocgpgbfaa

/-- A walk's state: how many were met, when each was, the earliest one that it comes back to, its group, the stack, the groups. -/
structure St where
  n : Nat
  met : List Nat
  low : List Nat
  of : List (Option Nat)
  stk : List Nat
  grp : List (List Nat)
def mt (s : St) (x : Nat) : Nat := s.met.getD x 0
def lw (s : St) (x : Nat) : Nat := s.low.getD x 0
def gof (s : St) (x : Nat) : Option Nat := s.of.getD x none
def sortN (l : List Nat) : List Nat := l.mergeSort fun x y => decide (x ≤ y)
def pushS (i : Nat) (s : St) : St := { s with n := s.n + 1, met := s.met.set i (s.n + 1), low := s.low.set i (s.n + 1), stk := s.stk ++ [i] }
def setLow (i v : Nat) (s : St) : St := { s with low := s.low.set i v }
def setAll (g : List Nat) (m : Nat) (o : List (Option Nat)) : List (Option Nat) := g.foldl (fun o k => o.set k (some m)) o
def top (i : Nat) (s : St) : List Nat := sortN (s.stk.drop (s.stk.idxOf i))
def closeS (i : Nat) (s : St) : St := if lw s i < mt s i then s else
  { s with of := setAll (top i s) s.grp.length s.of, stk := s.stk.take (s.stk.idxOf i), grp := s.grp ++ [top i s] }
def edges (vis : Nat → St → Option St) (i : Nat) : List Nat → St → Option St
  | [], s => some s
  | k :: ks, s => if mt s k = 0 then match vis k s with
      | none => none
      | some s' => edges vis i ks (setLow i (min (lw s' i) (lw s' k)) s')
    else if gof s k = none then edges vis i ks (setLow i (min (lw s i) (mt s k)) s)
    else edges vis i ks s
def visF (N : List (List Nat)) : Nat → Nat → St → Option St
  | 0, _, _ => none
  | f + 1, i, s => match edges (visF N f) i (N.getD i []) (pushS i s) with
    | none => none
    | some s' => some (closeS i s')
structure WF (N : List (List Nat)) (s : St) : Prop where
  m : s.met.length = N.length
  l : s.low.length = N.length
  o : s.of.length = N.length
  c : s.n + s.met.count 0 = N.length
  gs : s.grp.length + s.stk.length ≤ s.n
  sk : ∀ x ∈ s.stk, x < N.length ∧ mt s x ≠ 0
/-- What a later state keeps. -/
structure Keep (s s' : St) : Prop where
  kn : s.n ≤ s'.n
  km : ∀ x, mt s x ≠ 0 → mt s' x = mt s x
  ks : s.stk <+: s'.stk
  kg : s.grp <+: s'.grp
  k0 : s'.n = s.n → s'.grp = s.grp ∧ s'.stk = s.stk
theorem Keep.refl (s : St) : Keep s s := ⟨Nat.le_refl _, fun _ _ => rfl, List.prefix_refl _, List.prefix_refl _, fun _ => ⟨rfl, rfl⟩⟩
theorem Keep.trans {s t u : St} (h : Keep s t) (k : Keep t u) : Keep s u := ⟨Nat.le_trans h.kn k.kn, fun x hx => by rw [k.km x (by rw [h.km x hx]; exact hx), h.km x hx], h.ks.trans k.ks, h.kg.trans k.kg, fun e => by
  have h1 := h.kn
  have h2 := k.kn
  have h3 := h.k0 (by omega)
  have h4 := k.k0 (by omega)
  exact ⟨h4.1.trans h3.1, h4.2.trans h3.2⟩⟩
theorem mt_low (i v : Nat) (s : St) (x : Nat) : mt (setLow i v s) x = mt s x := rfl
theorem Keep.low (i v : Nat) (s : St) : Keep s (setLow i v s) := ⟨Nat.le_refl _, fun _ _ => rfl, List.prefix_refl _, List.prefix_refl _, fun _ => ⟨rfl, rfl⟩⟩
theorem WF.low {N : List (List Nat)} {s : St} (h : WF N s) (i v : Nat) : WF N (setLow i v s) := ⟨h.m, by simp [setLow, h.l], h.o, h.c, h.gs, h.sk⟩
theorem getD_set {α : Type} (l : List α) (i j : Nat) (a d : α) : (l.set i a).getD j d = if i = j ∧ i < l.length then a else l.getD j d := by
  simp only [List.getD_eq_getElem?_getD, List.getElem?_set]
  by_cases h : i = j
  · subst h
    by_cases h2 : i < l.length
    · simp [h2]
    · simp [h2]
  · simp [h]
theorem lt_of_mt {s : St} {x : Nat} (h : mt s x ≠ 0) : x < s.met.length := by
  apply Decidable.byContradiction
  intro hn
  apply h
  unfold mt
  rw [List.getD_eq_getElem?_getD, List.getElem?_eq_none (by omega)]; rfl
theorem mt_push {i : Nat} {s : St} (hi : i < s.met.length) (x : Nat) : mt (pushS i s) x = if x = i then s.n + 1 else mt s x := by
  unfold mt pushS
  rw [getD_set]
  by_cases h : x = i
  · subst h; simp [hi]
  · rw [if_neg (fun e => h e.1.symm), if_neg h]
theorem WF.push {N : List (List Nat)} {s : St} (h : WF N s) {i : Nat} (hi : i < N.length) (h0 : mt s i = 0) : WF N (pushS i s) where
  m := by simp [pushS, h.m]
  l := by simp [pushS, h.l]
  o := h.o
  c := by
    have hl : i < s.met.length := by rw [h.m]; exact hi
    have h1 : s.met[i] = 0 := by
      have : mt s i = s.met[i] := by unfold mt; rw [List.getD_eq_getElem?_getD, List.getElem?_eq_getElem hl]; rfl
      rw [← this]; exact h0
    have h2 : 0 < s.met.count 0 := List.count_pos_iff.2 (h1 ▸ List.getElem_mem hl)
    have h3 := h.c
    show s.n + 1 + (s.met.set i (s.n + 1)).count 0 = N.length
    rw [List.count_set hl]
    simp [h1]
    omega
  gs := by have := h.gs; simp [pushS]; omega
  sk := fun x hx => by
    have hl : i < s.met.length := by rw [h.m]; exact hi
    rw [mt_push hl]
    rcases List.mem_append.1 hx with hx | hx
    · have := h.sk x hx
      refine ⟨this.1, ?_⟩
      by_cases hxi : x = i
      · rw [if_pos hxi]; omega
      · rw [if_neg hxi]; exact this.2
    · rw [List.mem_singleton.1 hx]
      exact ⟨hi, by rw [if_pos rfl]; omega⟩
theorem Keep.push {N : List (List Nat)} {s : St} (h : WF N s) {i : Nat} (hi : i < N.length) (h0 : mt s i = 0) : Keep s (pushS i s) :=
  ⟨Nat.le_succ _, fun x hx => by
    have hne : x ≠ i := fun e => hx (by rw [e]; exact h0)
    rw [mt_push (by rw [h.m]; exact hi), if_neg hne], List.prefix_append _ _, List.prefix_refl _, fun e => absurd e (Nat.succ_ne_self _)⟩
theorem setAll_len (m : Nat) : ∀ (g : List Nat) (o : List (Option Nat)), (setAll g m o).length = o.length
  | [], o => rfl
  | k :: g, o => by
    show (setAll g m (o.set k (some m))).length = _
    rw [setAll_len m g, List.length_set]
theorem sortN_perm (l : List Nat) : (sortN l).Perm l := List.mergeSort_perm l _
theorem closeS_same {i : Nat} {s : St} (h : lw s i < mt s i) : closeS i s = s := if_pos h
theorem closeS_pop {i : Nat} {s : St} (h : ¬ lw s i < mt s i) : closeS i s = { s with of := setAll (top i s) s.grp.length s.of, stk := s.stk.take (s.stk.idxOf i), grp := s.grp ++ [top i s] } := if_neg h
theorem WF.close {N : List (List Nat)} {s : St} (h : WF N s) {i : Nat} (hi : i ∈ s.stk) : WF N (closeS i s) := by
  by_cases hl : lw s i < mt s i
  · rw [closeS_same hl]; exact h
  · rw [closeS_pop hl]
    have hx := List.idxOf_lt_length_iff.2 hi
    refine ⟨h.m, h.l, by rw [setAll_len]; exact h.o, h.c, ?_, fun x hx => h.sk x (List.mem_of_mem_take hx)⟩
    have := h.gs
    simp
    omega
/-- Behind the loop over its needs the thing is still on the stack; it leaves the stack as it found it. -/
theorem Keep.close {s s' : St} {i : Nat} (hp : (s.stk ++ [i]) <+: s'.stk) (hni : i ∉ s.stk) (hk : Keep s s') (hlt : s.n < s'.n) : Keep s (closeS i s') := by
  by_cases hl : lw s' i < mt s' i
  · rw [closeS_same hl]; exact hk
  · rw [closeS_pop hl]
    refine ⟨hk.kn, hk.km, ?_, hk.kg.trans (List.prefix_append _ _), fun e => absurd e (Nat.ne_of_gt hlt)⟩
    obtain ⟨r, hr⟩ := hp
    show s.stk <+: s'.stk.take (s'.stk.idxOf i)
    rw [← hr, List.append_assoc, List.idxOf_append, if_neg hni]
    simp
theorem edges_keep {N : List (List Nat)} {vis : Nat → St → Option St} (hv : ∀ k s s', k < N.length → WF N s → mt s k = 0 → vis k s = some s' → WF N s' ∧ Keep s s' ∧ s.n < s'.n) {i : Nat} : ∀ (ks : List Nat) (s s' : St), (∀ k ∈ ks, k < N.length) → WF N s → edges vis i ks s = some s' → WF N s' ∧ Keep s s'
  | [], s, s', _, hw, h => by cases h; exact ⟨hw, Keep.refl _⟩
  | k :: ks, s, s', hks, hw, h => by
    rw [edges] at h
    have hk := hks k (List.mem_cons_self ..)
    have hks' : ∀ k ∈ ks, k < N.length := fun k h => hks k (List.mem_cons_of_mem _ h)
    split at h
    · rename_i h0
      split at h
      · cases h
      · rename_i s1 h1
        obtain ⟨a, b, _⟩ := hv k s s1 hk hw h0 h1
        obtain ⟨c, d⟩ := edges_keep hv ks _ s' hks' (a.low i _) h
        exact ⟨c, b.trans ((Keep.low i _ s1).trans d)⟩
    · split at h
      · obtain ⟨c, d⟩ := edges_keep hv ks _ s' hks' (hw.low i _) h
        exact ⟨c, (Keep.low i _ s).trans d⟩
      · exact edges_keep hv ks s s' hks' hw h
/-- All needs are things. -/
def Rng (N : List (List Nat)) : Prop := ∀ l ∈ N, ∀ k ∈ l, k < N.length
theorem Rng.at {N : List (List Nat)} (h : Rng N) (i : Nat) : ∀ k ∈ N.getD i [], k < N.length := fun k hk => by
  rw [List.getD_eq_getElem?_getD] at hk
  cases hi : N[i]? with
  | none => rw [hi] at hk; cases hk
  | some r => rw [hi] at hk; exact h r (List.mem_of_getElem? hi) k hk
theorem vis_keep {N : List (List Nat)} (hr : Rng N) : ∀ (f i : Nat) (s s' : St), i < N.length → WF N s → mt s i = 0 → visF N f i s = some s' → WF N s' ∧ Keep s s' ∧ s.n < s'.n
  | 0, i, s, s', _, _, _, h => by cases h
  | f + 1, i, s, s', hi, hw, h0, h => by
    rw [visF] at h
    split at h
    · cases h
    · rename_i s1 h1
      cases h
      have hw1 := hw.push hi h0
      have hk1 := Keep.push hw hi h0
      obtain ⟨a, b⟩ := edges_keep (vis_keep hr f) _ _ _ (hr.at i) hw1 h1
      have hni : i ∉ s.stk := fun hm => (hw.sk i hm).2 h0
      have hm : i ∈ s1.stk := b.ks.subset (by simp [pushS])
      have h3 := b.kn
      refine ⟨a.close hm, Keep.close b.ks hni (hk1.trans b) h3, ?_⟩
      have h4 : (closeS i s1).n = s1.n := by unfold closeS; split <;> rfl
      rw [h4]
      exact h3
end Go.Proofs.Ytkfdklocgpgbfaa
namespace Go.Proofs.Ytkfdklocgpgbfaa

abbrev nd (N : List (List Nat)) (x : Nat) : List Nat := N.getD x []
/-- x reaches y. -/
inductive Rch (N : List (List Nat)) : Nat → Nat → Prop
  | refl (x : Nat) : Rch N x x
  | step {x k y : Nat} : k ∈ nd N x → Rch N k y → Rch N x y
theorem Rch.trans {N : List (List Nat)} {x y z : Nat} (h : Rch N x y) (k : Rch N y z) : Rch N x z := by
  induction h with
  | refl => exact k
  | step hk _ ih => exact .step hk (ih k)
theorem Rch.one {N : List (List Nat)} {x k : Nat} (h : k ∈ nd N x) : Rch N x k := .step h (.refl k)
/-- What is closed under needs holds of what is reached. -/
theorem Rch.closed {N : List (List Nat)} {P : Nat → Prop} (hP : ∀ x, P x → ∀ k ∈ nd N x, P k) {x y : Nat} (h : Rch N x y) : P x → P y := by
  induction h with
  | refl => exact id
  | step hk _ ih => exact fun hx => ih (hP _ hx _ hk)
structure TInv (N : List (List Nat)) (s : St) (G : List Nat) : Prop where
  wf : WF N s
  pos : ∀ x, mt s x ≤ s.n
  srt : s.stk.Pairwise fun a b => mt s a < mt s b
  on : ∀ x, x ∈ s.stk ↔ mt s x ≠ 0 ∧ gof s x = none
  gry : ∀ x ∈ G, x ∈ s.stk
  blk : ∀ x, mt s x ≠ 0 → x ∉ G → ∀ k ∈ nd N x, mt s k ≠ 0
  rch : ∀ x ∈ s.stk, ∀ y ∈ s.stk, mt s x ≤ mt s y → Rch N x y
  up : ∀ y ∈ s.stk, ∃ g ∈ G, mt s g ≤ mt s y ∧ Rch N y g
  dm : ∀ x, gof s x ≠ none → mt s x ≠ 0
  dl : ∀ x j, gof s x = some j → j < s.grp.length
  gs : ∀ j g, s.grp[j]? = some g → g ≠ [] ∧ g.Pairwise (· < ·) ∧ ∀ x, x ∈ g ↔ gof s x = some j
  scc : ∀ x j, gof s x = some j → ∀ y, gof s y = some j ↔ Rch N x y ∧ Rch N y x
  ord : ∀ x j, gof s x = some j → ∀ k ∈ nd N x, ∃ j', gof s k = some j' ∧ j' ≤ j
theorem TInv.cls {N : List (List Nat)} {s : St} {G : List Nat} (h : TInv N s G) : ∀ x, gof s x ≠ none → ∀ k ∈ nd N x, gof s k ≠ none := fun x hx k hk => by
  obtain ⟨j, hj⟩ := Option.ne_none_iff_exists'.1 hx
  obtain ⟨j', hj', _⟩ := h.ord x j hj k hk
  rw [hj']; exact fun e => by cases e
structure VPost (N : List (List Nat)) (s s' : St) (G : List Nat) (i : Nat) : Prop where
  inv : TInv N s' G
  keep : Keep s s'
  met : mt s' i = s.n + 1
  lowk : ∀ x, mt s x ≠ 0 → lw s' x = lw s x
  ofk : ∀ x, gof s x ≠ none → gof s' x = gof s x
  lo1 : (s'.stk = s.stk ∧ lw s' i = mt s' i) ∨ ∃ y ∈ s.stk, mt s y = lw s' i ∧ Rch N i y
  lo2 : ∀ x ∈ s'.stk, x ∉ s.stk → ∀ k ∈ nd N x, k ∈ s.stk → lw s' i ≤ mt s k
structure EInv (N : List (List Nat)) (s0 s : St) (G : List Nat) (i : Nat) (ks : List Nat) : Prop where
  inv : TInv N s (i :: G)
  keep : Keep (pushS i s0) s
  lowk : ∀ x, mt s0 x ≠ 0 → lw s x = lw s0 x
  ofk : ∀ x, gof s0 x ≠ none → gof s x = gof s0 x
  lo : ∃ y ∈ s.stk, mt s y = lw s i ∧ Rch N i y
  lo' : lw s i ≤ mt s i
  lo2 : ∀ x ∈ s.stk, x ∉ s0.stk → x ≠ i → ∀ k ∈ nd N x, k ∈ s0.stk → lw s i ≤ mt s0 k
  done : ∀ k ∈ nd N i, k ∉ ks → mt s k ≠ 0 ∧ (k ∈ s0.stk → lw s i ≤ mt s0 k)
theorem TInv.low {N : List (List Nat)} {s : St} {G : List Nat} (h : TInv N s G) (i v : Nat) : TInv N (setLow i v s) G :=
  ⟨h.wf.low i v, h.pos, h.srt, h.on, h.gry, h.blk, h.rch, h.up, h.dm, h.dl, h.gs, h.scc, h.ord⟩
theorem lw_set {i v : Nat} {s : St} (hi : i < s.low.length) (x : Nat) : lw (setLow i v s) x = if x = i then v else lw s x := by
  unfold lw setLow
  rw [getD_set]
  by_cases h : x = i
  · subst h; simp [hi]
  · rw [if_neg (fun e => h e.1.symm), if_neg h]
theorem lw_push {i : Nat} {s : St} (hi : i < s.low.length) (x : Nat) : lw (pushS i s) x = if x = i then s.n + 1 else lw s x := lw_set hi x
/-- A thing is met. -/
theorem TInv.push {N : List (List Nat)} {s : St} {G : List Nat} (h : TInv N s G) {i : Nat} (hi : i < N.length) (h0 : mt s i = 0) (hG : ∀ g ∈ G, Rch N g i) : TInv N (pushS i s) (i :: G) := by
  have hl : i < s.met.length := by rw [h.wf.m]; exact hi
  have hm := mt_push (s := s) hl
  have hns : ∀ x ∈ s.stk, x ≠ i := fun x hx e => ((h.on x).1 hx).1 (e ▸ h0)
  have hms : ∀ x ∈ s.stk, mt (pushS i s) x = mt s x := fun x hx => by rw [hm, if_neg (hns x hx)]
  have hof : ∀ x, gof (pushS i s) x = gof s x := fun _ => rfl
  have hi0 : gof s i = none := Decidable.byContradiction fun hn => h.dm i hn h0
  refine ⟨h.wf.push hi h0, ?_, ?_, ?_, ?_, ?_, ?_, ?_, ?_, h.dl, h.gs, h.scc, h.ord⟩
  · intro x
    rw [hm]
    have := h.pos x
    show _ ≤ s.n + 1
    split <;> omega
  · show (s.stk ++ [i]).Pairwise _
    rw [List.pairwise_append]
    refine ⟨h.srt.imp_of_mem fun {a b} ha hb hab => by rw [hms a ha, hms b hb]; exact hab, List.pairwise_singleton _ _, fun a ha b hb => ?_⟩
    rw [List.mem_singleton.1 hb, hms a ha, hm, if_pos rfl]
    have := h.pos a
    omega
  · intro x
    show x ∈ s.stk ++ [i] ↔ _
    rw [List.mem_append, List.mem_singleton, hm, hof, h.on]
    by_cases hx : x = i
    · subst hx; simp [hi0]
    · simp [hx]
  · intro x hx
    show x ∈ s.stk ++ [i]
    rw [List.mem_append, List.mem_singleton]
    rcases List.mem_cons.1 hx with rfl | hx
    · exact .inr rfl
    · exact .inl (h.gry x hx)
  · intro x hx hxG k hk
    have hxi : x ≠ i := fun e => hxG (e ▸ List.mem_cons_self ..)
    rw [hm, if_neg hxi] at hx
    have := h.blk x hx (fun hn => hxG (List.mem_cons_of_mem _ hn)) k hk
    rw [hm]
    split
    · omega
    · exact this
  · intro x hx y hy hxy
    have hx' := List.mem_append.1 hx
    have hy' := List.mem_append.1 hy
    rcases hy' with hy' | hy'
    · rcases hx' with hx' | hx'
      · rw [hms x hx', hms y hy'] at hxy
        exact h.rch x hx' y hy' hxy
      · rw [List.mem_singleton.1 hx', hms y hy', hm, if_pos rfl] at hxy
        have := h.pos y
        omega
    · rw [List.mem_singleton.1 hy']
      rcases hx' with hx' | hx'
      · obtain ⟨g, hg, _, hr⟩ := h.up x hx'
        exact hr.trans (hG g hg)
      · rw [List.mem_singleton.1 hx']; exact .refl _
  · intro y hy
    rcases List.mem_append.1 hy with hy' | hy'
    · obtain ⟨g, hg, hl, hr⟩ := h.up y hy'
      refine ⟨g, List.mem_cons_of_mem _ hg, ?_, hr⟩
      rw [hms y hy', hms g (h.gry g hg)]; exact hl
    · rw [List.mem_singleton.1 hy']
      exact ⟨i, List.mem_cons_self .., Nat.le_refl _, .refl _⟩
  · intro x hx
    rw [hm]
    split
    · omega
    · exact h.dm x hx
/-- What a later state keeps of the stack. -/
theorem Keep.mem {s s' : St} (h : Keep s s') {x : Nat} (hx : x ∈ s.stk) : x ∈ s'.stk := h.ks.subset hx
/-- One need more is looked at. -/
theorem EInv.next {N : List (List Nat)} {s0 s : St} {G : List Nat} {i k : Nat} {ks : List Nat} (h0 : TInv N s0 G) (hi : i < N.length) (h : EInv N s0 s G i (k :: ks)) (hks : k ∈ nd N i) (hmk : mt s k ≠ 0)
    (v : Nat) (hv : v ≤ lw s i) (hv1 : v = lw s i ∨ ∃ y ∈ s.stk, mt s y = v ∧ Rch N i y) (hv2 : k ∈ s0.stk → v ≤ mt s0 k) (hi0 : mt s0 i = 0) : EInv N s0 (setLow i v s) G i ks := by
  have hl : i < s.low.length := by rw [h.inv.wf.l]; exact hi
  have hlw := lw_set (v := v) hl
  refine ⟨h.inv.low i v, h.keep.trans (Keep.low i v s), ?_, h.ofk, ?_, ?_, ?_, ?_⟩
  · intro x hx
    have hne : x ≠ i := fun e => hx (by rw [e]; exact hi0)
    rw [hlw, if_neg hne]
    exact h.lowk x hx
  · rw [hlw, if_pos rfl]
    rcases hv1 with rfl | hv1
    · exact h.lo
    · exact hv1
  · rw [hlw, if_pos rfl]; exact Nat.le_trans hv h.lo'
  · intro x hx hn hxi q hq hqs
    rw [hlw, if_pos rfl]
    exact Nat.le_trans hv (h.lo2 x hx hn hxi q hq hqs)
  · intro q hq hn
    rw [hlw, if_pos rfl]
    by_cases hqk : q = k
    · subst hqk; exact ⟨hmk, hv2⟩
    · have := h.done q hq (fun hm => (List.mem_cons.1 hm).elim hqk hn)
      exact ⟨this.1, fun hs => Nat.le_trans hv (this.2 hs)⟩
theorem EInv.same {N : List (List Nat)} {s0 s : St} {G : List Nat} {i k : Nat} {ks : List Nat} (h : EInv N s0 s G i (k :: ks)) (hmk : mt s k ≠ 0) (hv2 : k ∈ s0.stk → lw s i ≤ mt s0 k) : EInv N s0 s G i ks :=
  ⟨h.inv, h.keep, h.lowk, h.ofk, h.lo, h.lo', h.lo2, fun q hq hn => by
    by_cases hqk : q = k
    · subst hqk; exact ⟨hmk, hv2⟩
    · exact h.done q hq (fun hm => (List.mem_cons.1 hm).elim hqk hn)⟩
/-- What the walk below a thing gives. -/
def VisG (N : List (List Nat)) (f : Nat) (vis : Nat → St → Option St) : Prop := ∀ (k : Nat) (s : St) (G : List Nat), TInv N s G → k < N.length → mt s k = 0 → (∀ g ∈ G, Rch N g k) → s.met.count 0 ≤ f → ∃ s', vis k s = some s' ∧ VPost N s s' G k
theorem EInv.mk0 {N : List (List Nat)} {s0 s : St} {G : List Nat} {i : Nat} {ks : List Nat} (h0 : TInv N s0 G) (hi : i < N.length) (hi0 : mt s0 i = 0) (h : EInv N s0 s G i ks) {x : Nat} (hx : mt s0 x ≠ 0) : mt s x = mt s0 x := by
  have hne : x ≠ i := fun e => hx (by rw [e]; exact hi0)
  have h1 : mt (pushS i s0) x = mt s0 x := by rw [mt_push (by rw [h0.wf.m]; exact hi), if_neg hne]
  rw [← h1]
  exact h.keep.km x (by rw [h1]; exact hx)
theorem EInv.mki {N : List (List Nat)} {s0 s : St} {G : List Nat} {i : Nat} {ks : List Nat} (h0 : TInv N s0 G) (hi : i < N.length) (h : EInv N s0 s G i ks) : mt s i = s0.n + 1 := by
  have h1 : mt (pushS i s0) i = s0.n + 1 := by rw [mt_push (by rw [h0.wf.m]; exact hi), if_pos rfl]
  rw [← h1]
  exact h.keep.km i (by rw [h1]; omega)
theorem EInv.stk0 {N : List (List Nat)} {s0 s : St} {G : List Nat} {i : Nat} {ks : List Nat} (h : EInv N s0 s G i ks) {x : Nat} (hx : x ∈ s0.stk) : x ∈ s.stk := h.keep.ks.subset (List.mem_append_left _ hx)
theorem edges_inv {N : List (List Nat)} {f : Nat} {vis : Nat → St → Option St} (hr : Rng N) (hv : VisG N f vis) {s0 : St} {G : List Nat} {i : Nat} (h0 : TInv N s0 G) (hi : i < N.length) (hi0 : mt s0 i = 0) (hG : ∀ g ∈ G, Rch N g i) (hc : (pushS i s0).met.count 0 ≤ f) :
    ∀ (ks : List Nat) (s : St), (∀ k ∈ ks, k ∈ nd N i) → EInv N s0 s G i ks → ∃ s', edges vis i ks s = some s' ∧ EInv N s0 s' G i []
  | [], s, _, h => ⟨s, rfl, h⟩
  | k :: ks, s, hks, h => by
    have hk := hks k (List.mem_cons_self ..)
    have hks' : ∀ k ∈ ks, k ∈ nd N i := fun k h => hks k (List.mem_cons_of_mem _ h)
    have hkN := hr.at i k hk
    have hgk : ∀ g ∈ i :: G, Rch N g k := fun g hg => by
      rcases List.mem_cons.1 hg with rfl | hg
      · exact .one hk
      · exact (hG g hg).trans (.one hk)
    have hcn : s.met.count 0 ≤ f := by
      have h1 := (h0.wf.push hi hi0).c
      have h2 := h.inv.wf.c
      have h3 := h.keep.kn
      omega
    rw [edges]
    by_cases hm : mt s k = 0
    · rw [if_pos hm]
      obtain ⟨s1, e1, p⟩ := hv k s (i :: G) h.inv hkN hm hgk hcn
      rw [e1]
      have hii : mt s i ≠ 0 := by rw [h.mki h0 hi]; omega
      have hli : lw s1 i = lw s i := p.lowk i hii
      have hmi : mt s1 i = mt s i := p.keep.km i hii
      have hl : i < s1.low.length := by rw [p.inv.wf.l]; exact hi
      have hlw := lw_set (v := min (lw s1 i) (lw s1 k)) hl
      have hne : ∀ x, mt s0 x ≠ 0 → x ≠ i := fun x hx e => hx (by rw [e]; exact hi0)
      have hk0 : mt s0 k = 0 := Decidable.byContradiction fun hn => by
        rw [h.mk0 h0 hi hi0 hn] at hm; exact hn hm
      refine edges_inv hr hv h0 hi hi0 hG hc ks _ hks' ⟨p.inv.low i _, h.keep.trans (p.keep.trans (Keep.low i _ s1)), ?_, ?_, ?_, ?_, ?_, ?_⟩
      · intro x hx
        rw [hlw, if_neg (hne x hx), p.lowk x (by rw [h.mk0 h0 hi hi0 hx]; exact hx), h.lowk x hx]
      · intro x hx
        show gof s1 x = _
        rw [p.ofk x (by rw [h.ofk x hx]; exact hx), h.ofk x hx]
      · rw [hlw, if_pos rfl, hli]
        obtain ⟨y, hy, hy1, hy2⟩ := h.lo
        have hmy : mt s1 y = mt s y := p.keep.km y ((h.inv.on y).1 hy).1
        by_cases hle : lw s i ≤ lw s1 k
        · exact ⟨y, p.keep.mem hy, by show mt s1 y = _; rw [hmy, hy1]; omega, hy2⟩
        · have hmin : min (lw s i) (lw s1 k) = lw s1 k := by omega
          rw [hmin]
          rcases p.lo1 with ⟨_, h2⟩ | ⟨z, hz, hz1, hz2⟩
          · exfalso
            have h3 := p.met
            have h4 := h.inv.pos i
            have h5 := h.lo'
            omega
          · refine ⟨z, p.keep.mem hz, ?_, (Rch.one hk).trans hz2⟩
            show mt s1 z = _
            rw [p.keep.km z ((h.inv.on z).1 hz).1, hz1]
      · rw [hlw, if_pos rfl, hli]
        show _ ≤ mt s1 i
        rw [hmi]
        have := h.lo'
        omega
      · intro x hx hn hxi q hq hqs
        rw [hlw, if_pos rfl, hli]
        by_cases hxs : x ∈ s.stk
        · have := h.lo2 x hxs hn hxi q hq hqs
          omega
        · have h1 := p.lo2 x hx hxs q hq (h.stk0 hqs)
          rw [h.mk0 h0 hi hi0 ((h0.on q).1 hqs).1] at h1
          omega
      · intro q hq hn
        rw [hlw, if_pos rfl, hli]
        show mt s1 q ≠ 0 ∧ _
        by_cases hqk : q = k
        · subst hqk
          refine ⟨by rw [p.met]; omega, fun hs => absurd hk0 ((h0.on q).1 hs).1⟩
        · have h1 := h.done q hq (fun hm => (List.mem_cons.1 hm).elim hqk hn)
          refine ⟨by rw [p.keep.km q h1.1]; exact h1.1, fun hs => ?_⟩
          have := h1.2 hs
          omega
    · rw [if_neg hm]
      by_cases ho : gof s k = none
      · rw [if_pos ho]
        refine edges_inv hr hv h0 hi hi0 hG hc ks _ hks' (EInv.next h0 hi h hk hm _ (Nat.min_le_left _ _) ?_ (fun hs => ?_) hi0)
        · by_cases hle : lw s i ≤ mt s k
          · exact .inl (Nat.min_eq_left hle)
          · exact .inr ⟨k, (h.inv.on k).2 ⟨hm, ho⟩, by omega, .one hk⟩
        · rw [← h.mk0 h0 hi hi0 ((h0.on k).1 hs).1]
          exact Nat.min_le_right _ _
      · rw [if_neg ho]
        exact edges_inv hr hv h0 hi hi0 hG hc ks s hks' (h.same hm fun hs => absurd ((h.inv.on k).1 (h.stk0 hs)).2 ho)
end Go.Proofs.Ytkfdklocgpgbfaa
namespace Go.Proofs.Ytkfdklocgpgbfaa

theorem setAll_at (m : Nat) : ∀ (g : List Nat) (o : List (Option Nat)) (x : Nat), (setAll g m o).getD x none = if x ∈ g ∧ x < o.length then some m else o.getD x none
  | [], o, x => by simp [setAll]
  | k :: g, o, x => by
    show (setAll g m (o.set k (some m))).getD x none = _
    rw [setAll_at m g, getD_set, List.length_set]
    by_cases h1 : x ∈ g
    · by_cases h2 : x < o.length
      · simp [h1, h2]
      · simp only [h1, h2, and_false, if_false]
        rw [if_neg (fun (e : k = x ∧ k < o.length) => h2 (e.1 ▸ e.2))]
    · by_cases h2 : k = x
      · subst h2
        simp [h1]
      · have h3 : ¬ x = k := fun e => h2 e.symm
        simp [h1, h2, h3]
theorem pairwise_lt {s : St} {a b : List Nat} (h : (a ++ b).Pairwise fun x y => mt s x < mt s y) {x y : Nat} (hx : x ∈ a) (hy : y ∈ b) : mt s x < mt s y := (List.pairwise_append.1 h).2.2 x hx y hy
theorem sortN_lt {l : List Nat} (h : l.Nodup) : (sortN l).Pairwise (· < ·) := by
  have h1 : (sortN l).Pairwise fun a b => decide (a ≤ b) = true := List.pairwise_mergeSort (fun a b c h1 h2 => by simp at *; omega) (fun a b => by simp; omega) l
  have h2 : (sortN l).Nodup := (sortN_perm l).nodup_iff.2 h
  exact (h1.and h2).imp fun {a b} h => by
    have := h.1
    have h3 := h.2
    simp at this
    omega
theorem visit_end {N : List (List Nat)} {s0 s : St} {G : List Nat} {i : Nat} (h0 : TInv N s0 G) (hi : i < N.length) (hi0 : mt s0 i = 0) (hG : ∀ g ∈ G, Rch N g i) (h : EInv N s0 s G i []) : VPost N s0 (closeS i s) G i := by
  obtain ⟨r, hr⟩ := h.keep.ks
  have hst : s.stk = s0.stk ++ (i :: r) := by rw [← hr]; simp [pushS]
  have hni : i ∉ s0.stk := fun hm => ((h0.on i).1 hm).1 hi0
  have hin : i ∈ s.stk := by rw [hst]; simp
  have hidx : s.stk.idxOf i = s0.stk.length := by rw [hst, List.idxOf_append, if_neg hni]; simp
  have htk : s.stk.take (s.stk.idxOf i) = s0.stk := by rw [hidx, hst]; simp
  have hdr : s.stk.drop (s.stk.idxOf i) = i :: r := by rw [hidx, hst]; simp
  have hkp : Keep s0 s := (Keep.push h0.wf hi hi0).trans h.keep
  have hsrt := h.inv.srt
  rw [hst] at hsrt
  have hlt : ∀ x ∈ s0.stk, mt s x < mt s i := fun x hx => pairwise_lt hsrt hx (List.mem_cons_self ..)
  have hge : ∀ x ∈ i :: r, mt s i ≤ mt s x := fun x hx => by
    rcases List.mem_cons.1 hx with rfl | hx
    · exact Nat.le_refl _
    · exact Nat.le_of_lt ((List.pairwise_cons.1 (List.pairwise_append.1 hsrt).2.1).1 x hx)
  have hdis : ∀ x ∈ s0.stk, x ∉ i :: r := fun x hx hx' => by
    have := hlt x hx
    have := hge x hx'
    omega
  have hmi := h.mki h0 hi
  by_cases hl : lw s i < mt s i
  · rw [closeS_same hl]
    obtain ⟨y, hy, hy1, hy2⟩ := h.lo
    have hys : y ∈ s0.stk := by
      have h1 := hy
      rw [hst, List.mem_append] at h1
      rcases h1 with h1 | h1
      · exact h1
      · have := hge y h1
        omega
    refine ⟨⟨h.inv.wf, h.inv.pos, h.inv.srt, h.inv.on, fun x hx => h.inv.gry x (List.mem_cons_of_mem _ hx), ?_, h.inv.rch, ?_, h.inv.dm, h.inv.dl, h.inv.gs, h.inv.scc, h.inv.ord⟩, hkp, hmi, h.lowk, h.ofk, .inr ⟨y, hys, ?_, hy2⟩, ?_⟩
    · intro x hx hxG k hk
      by_cases hxi : x = i
      · subst hxi; exact (h.done k hk (by simp)).1
      · exact h.inv.blk x hx (fun hm => (List.mem_cons.1 hm).elim hxi hxG) k hk
    · intro z hz
      obtain ⟨g, hg, hg1, hg2⟩ := h.inv.up z hz
      rcases List.mem_cons.1 hg with rfl | hg
      · obtain ⟨g', hg', hg1', hg2'⟩ := h.inv.up y hy
        rcases List.mem_cons.1 hg' with rfl | hg'
        · omega
        · exact ⟨g', hg', by omega, hg2.trans (hy2.trans hg2')⟩
      · exact ⟨g, hg, hg1, hg2⟩
    · rw [← h.mk0 h0 hi hi0 ((h0.on y).1 hys).1]; exact hy1
    · intro x hx hn k hk hks
      by_cases hxi : x = i
      · subst hxi; exact (h.done k hk (by simp)).2 hks
      · exact h.lo2 x hx hn hxi k hk hks
  · have hleq : lw s i = mt s i := by have := h.lo'; omega
    have hclose : closeS i s = { s with of := setAll (top i s) s.grp.length s.of, stk := s0.stk, grp := s.grp ++ [top i s] } := by rw [closeS_pop hl, htk]
    have htop : top i s = sortN (i :: r) := by unfold top; rw [hdr]
    have hmem : ∀ x, x ∈ top i s ↔ x ∈ i :: r := fun x => by rw [htop]; exact (sortN_perm _).mem_iff
    have hCs : ∀ x ∈ i :: r, x ∈ s.stk := fun x hx => by rw [hst]; exact List.mem_append_right _ hx
    have hCn : ∀ x ∈ i :: r, gof s x = none := fun x hx => ((h.inv.on x).1 (hCs x hx)).2
    have hgof : ∀ x, gof (closeS i s) x = if x ∈ i :: r then some s.grp.length else gof s x := fun x => by
      rw [hclose]
      unfold gof
      show (setAll (top i s) s.grp.length s.of).getD x none = _
      rw [setAll_at]
      by_cases hx : x ∈ i :: r
      · have h1 : x < s.of.length := by rw [h.inv.wf.o]; exact (h.inv.wf.sk x (hCs x hx)).1
        rw [if_pos ⟨(hmem x).2 hx, h1⟩, if_pos hx]
      · rw [if_neg (fun e => hx ((hmem x).1 e.1)), if_neg hx]
    have hmt : ∀ x, mt (closeS i s) x = mt s x := fun x => by rw [hclose]; rfl
    have hlw : ∀ x, lw (closeS i s) x = lw s x := fun x => by rw [hclose]; rfl
    have hstk : (closeS i s).stk = s0.stk := by rw [hclose]
    have hgrp : (closeS i s).grp = s.grp ++ [top i s] := by rw [hclose]
    have hn : (closeS i s).n = s.n := by rw [hclose]
    -- from i to all of its part, and back
    have ha : ∀ x ∈ i :: r, Rch N i x := fun x hx => h.inv.rch i hin x (hCs x hx) (hge x hx)
    have hb : ∀ x ∈ i :: r, Rch N x i := fun x hx => by
      obtain ⟨g, hg, _, h2⟩ := h.inv.up x (hCs x hx)
      rcases List.mem_cons.1 hg with rfl | hg
      · exact h2
      · exact h2.trans (hG g hg)
    -- what is reached from the part is in it, or done
    have hcl : ∀ x, (x ∈ i :: r ∨ gof s x ≠ none) → ∀ k ∈ nd N x, (k ∈ i :: r ∨ gof s k ≠ none) := fun x hx k hk => by
      rcases hx with hx | hx
      · have hk1 : mt s k ≠ 0 ∧ (k ∈ s0.stk → lw s i ≤ mt s0 k) := by
          by_cases hxi : x = i
          · subst hxi; exact h.done k hk (by simp)
          · have hxn : x ∉ s0.stk := fun hm => hdis x hm hx
            refine ⟨h.inv.blk x ((h.inv.on x).1 (hCs x hx)).1 (fun hm => ?_) k hk, fun hs => h.lo2 x (hCs x hx) hxn hxi k hk hs⟩
            rcases List.mem_cons.1 hm with hm | hm
            · exact hxi hm
            · exact hxn (h0.gry x hm)
        by_cases hg : gof s k = none
        · have h2 := (h.inv.on k).2 ⟨hk1.1, hg⟩
          rw [hst, List.mem_append] at h2
          rcases h2 with h2 | h2
          · have h3 := hk1.2 h2
            have h4 := hlt k h2
            rw [h.mk0 h0 hi hi0 ((h0.on k).1 h2).1] at h4
            omega
          · exact .inl h2
        · exact .inr hg
      · exact .inr (h.inv.cls x hx k hk)
    have hd : ∀ y, Rch N i y → Rch N y i → y ∈ i :: r := fun y h1 h2 => by
      rcases h1.closed hcl (.inl (List.mem_cons_self ..)) with h3 | h3
      · exact h3
      · obtain ⟨j, hj⟩ := Option.ne_none_iff_exists'.1 h3
        have := (h.inv.scc y j hj i).2 ⟨h2, h1⟩
        rw [hCn i (List.mem_cons_self ..)] at this
        cases this
    have hnd : (i :: r).Nodup := (List.pairwise_append.1 hsrt).2.1.imp fun {a b} hab e => by rw [e] at hab; omega
    -- groups of before
    have hold : ∀ x j, j < s.grp.length → (gof (closeS i s) x = some j ↔ gof s x = some j) := fun x j hj => by
      rw [hgof]
      by_cases hx : x ∈ i :: r
      · rw [if_pos hx, hCn x hx]
        constructor
        · intro e; have := Option.some.inj e; omega
        · intro e; cases e
      · rw [if_neg hx]
    have hnew : ∀ x, gof (closeS i s) x = some s.grp.length ↔ x ∈ i :: r := fun x => by
      rw [hgof]
      by_cases hx : x ∈ i :: r
      · rw [if_pos hx]; simp [hx]
      · rw [if_neg hx]
        constructor
        · intro e; have := h.inv.dl x _ e; omega
        · intro e; exact absurd e hx
    have hsome : ∀ x, gof (closeS i s) x ≠ none ↔ (x ∈ i :: r ∨ gof s x ≠ none) := fun x => by
      rw [hgof]
      by_cases hx : x ∈ i :: r
      · rw [if_pos hx]; simp [hx]
      · rw [if_neg hx]; simp [hx]
    refine ⟨⟨h.inv.wf.close hin, ?_, ?_, ?_, ?_, ?_, ?_, ?_, ?_, ?_, ?_, ?_, ?_⟩, ?_, by rw [hmt]; exact hmi, fun x hx => by rw [hlw]; exact h.lowk x hx, ?_, .inl ⟨hstk, by rw [hlw, hmt]; exact hleq⟩, fun x hx hn => absurd (hstk ▸ hx) hn⟩
    · intro x; rw [hmt, hn]; exact h.inv.pos x
    · rw [hstk]
      simp only [hmt]
      exact (List.pairwise_append.1 hsrt).1
    · intro x
      rw [hstk, hmt]
      constructor
      · intro hx
        have h1 := (h.inv.on x).1 (h.stk0 hx)
        refine ⟨h1.1, ?_⟩
        rw [hgof, if_neg (hdis x hx)]; exact h1.2
      · rintro ⟨h1, h2⟩
        rw [hgof] at h2
        by_cases hx : x ∈ i :: r
        · rw [if_pos hx] at h2; cases h2
        · rw [if_neg hx] at h2
          have h3 := (h.inv.on x).2 ⟨h1, h2⟩
          rw [hst, List.mem_append] at h3
          exact h3.resolve_right hx
    · intro x hx; rw [hstk]; exact h0.gry x hx
    · intro x hx hxG k hk
      rw [hmt] at hx ⊢
      by_cases hxi : x = i
      · subst hxi; exact (h.done k hk (by simp)).1
      · exact h.inv.blk x hx (fun hm => (List.mem_cons.1 hm).elim hxi hxG) k hk
    · intro x hx y hy
      rw [hstk] at hx hy
      rw [hmt, hmt]
      exact h.inv.rch x (h.stk0 hx) y (h.stk0 hy)
    · intro y hy
      rw [hstk] at hy
      obtain ⟨g, hg, hg1, hg2⟩ := h.inv.up y (h.stk0 hy)
      rcases List.mem_cons.1 hg with rfl | hg
      · have := hlt y hy
        omega
      · exact ⟨g, hg, by rw [hmt, hmt]; exact hg1, hg2⟩
    · intro x hx
      rw [hmt]
      rcases (hsome x).1 hx with hx | hx
      · exact ((h.inv.on x).1 (hCs x hx)).1
      · exact h.inv.dm x hx
    · intro x j hj
      rw [hgrp, List.length_append, List.length_singleton]
      rw [hgof] at hj
      by_cases hx : x ∈ i :: r
      · rw [if_pos hx] at hj; have := Option.some.inj hj; omega
      · rw [if_neg hx] at hj; have := h.inv.dl x j hj; omega
    · intro j g hg
      rw [hgrp] at hg
      by_cases hj : j < s.grp.length
      · rw [List.getElem?_append_left hj] at hg
        obtain ⟨h1, h2, h3⟩ := h.inv.gs j g hg
        exact ⟨h1, h2, fun x => by rw [h3, hold x j hj]⟩
      · rw [List.getElem?_append_right (by omega)] at hg
        have hj2 : j = s.grp.length := by
          apply Decidable.byContradiction
          intro hne
          rw [List.getElem?_eq_none (by simp; omega)] at hg
          cases hg
        subst hj2
        simp at hg
        subst hg
        refine ⟨fun e => ?_, ?_, fun x => by rw [hmem, hnew]⟩
        · have := (hmem i).2 (List.mem_cons_self ..)
          rw [e] at this; cases this
        · rw [htop]; exact sortN_lt hnd
    · intro x j hj y
      by_cases hx : x ∈ i :: r
      · have hj2 : j = s.grp.length := by
          have := (hnew x).2 hx
          rw [hj] at this
          exact Option.some.inj this
        subst hj2
        rw [hnew]
        constructor
        · intro hy; exact ⟨(hb x hx).trans (ha y hy), (hb y hy).trans (ha x hx)⟩
        · rintro ⟨h1, h2⟩; exact hd y ((ha x hx).trans h1) (h2.trans (hb x hx))
      · have hj1 : gof s x = some j := by rw [hgof, if_neg hx] at hj; exact hj
        rw [hold y j (h.inv.dl x j hj1)]
        exact h.inv.scc x j hj1 y
    · intro x j hj k hk
      by_cases hx : x ∈ i :: r
      · have hj2 : j = s.grp.length := by
          have := (hnew x).2 hx
          rw [hj] at this
          exact Option.some.inj this
        subst hj2
        rcases hcl x (.inl hx) k hk with h1 | h1
        · exact ⟨_, (hnew k).2 h1, Nat.le_refl _⟩
        · obtain ⟨j', hj'⟩ := Option.ne_none_iff_exists'.1 h1
          have h2 := h.inv.dl k j' hj'
          exact ⟨j', (hold k j' h2).2 hj', Nat.le_of_lt h2⟩
      · have hj1 : gof s x = some j := by rw [hgof, if_neg hx] at hj; exact hj
        obtain ⟨j', hj', hle⟩ := h.inv.ord x j hj1 k hk
        exact ⟨j', (hold k j' (h.inv.dl k j' hj')).2 hj', hle⟩
    · have h1 := Keep.close h.keep.ks hni hkp (by have := h.keep.kn; show s0.n < s.n; exact this)
      exact h1
    · intro x hx
      have h1 := h.ofk x hx
      have hxC : x ∉ i :: r := fun hm => by rw [← h1, hCn x hm] at hx; exact hx rfl
      rw [hgof, if_neg hxC]; exact h1
theorem EInv.start {N : List (List Nat)} {s0 : St} {G : List Nat} {i : Nat} (h0 : TInv N s0 G) (hi : i < N.length) (hi0 : mt s0 i = 0) (hG : ∀ g ∈ G, Rch N g i) : EInv N s0 (pushS i s0) G i (nd N i) := by
  have hm := mt_push (s := s0) (i := i) (by rw [h0.wf.m]; exact hi)
  have hl := lw_push (s := s0) (i := i) (by rw [h0.wf.l]; exact hi)
  refine ⟨h0.push hi hi0 hG, Keep.refl _, fun x hx => ?_, fun x _ => rfl, ⟨i, by simp [pushS], by rw [hm, hl, if_pos rfl, if_pos rfl], .refl _⟩, by rw [hm, hl, if_pos rfl, if_pos rfl]; exact Nat.le_refl _, fun x hx hn hxi => ?_, fun k hk hn => absurd hk hn⟩
  · have hne : x ≠ i := fun e => hx (by rw [e]; exact hi0)
    rw [hl, if_neg hne]
  · exfalso
    rcases List.mem_append.1 hx with hx | hx
    · exact hn hx
    · exact hxi (List.mem_singleton.1 hx)
/-- **A visit keeps the order of the walk**, and there is fuel enough. -/
theorem vis_inv {N : List (List Nat)} (hr : Rng N) : ∀ f, VisG N f (visF N f)
  | 0 => fun k s G h hk h0 hG hc => by
    exfalso
    have hl : k < s.met.length := by rw [h.wf.m]; exact hk
    have h1 : s.met[k] = 0 := by
      have : mt s k = s.met[k] := by unfold mt; rw [List.getD_eq_getElem?_getD, List.getElem?_eq_getElem hl]; rfl
      rw [← this]; exact h0
    have h2 : 0 < s.met.count 0 := List.count_pos_iff.2 (h1 ▸ List.getElem_mem hl)
    omega
  | f + 1 => fun k s G h hk h0 hG hc => by
    have hc2 : (pushS k s).met.count 0 ≤ f := by
      have h1 := (h.wf.push hk h0).c
      have h2 := h.wf.c
      have h3 : (pushS k s).n = s.n + 1 := rfl
      omega
    obtain ⟨s', e, p⟩ := edges_inv hr (vis_inv hr f) h hk h0 hG hc2 (nd N k) (pushS k s) (fun _ h => h) (EInv.start h hk h0 hG)
    refine ⟨closeS k s', ?_, visit_end h hk h0 hG p⟩
    rw [visF, e]
end Go.Proofs.Ytkfdklocgpgbfaa
namespace Go.Proofs.Ytkfdklocgpgbfaa

def loopP (N : List (List Nat)) (F : Nat) : List Nat → St → Option St
  | [], s => some s
  | i :: is, s => if mt s i = 0 then match visF N F i s with
      | none => none
      | some s' => loopP N F is s'
    else loopP N F is s
def startS (N : List (List Nat)) : St := { n := 0, met := List.replicate N.length 0, low := List.replicate N.length 0, of := List.replicate N.length none, stk := [], grp := [] }
theorem getD_rep {α : Type} (n : Nat) (a d : α) (h : a = d) (x : Nat) : (List.replicate n a).getD x d = d := by
  subst h
  rw [List.getD_eq_getElem?_getD, List.getElem?_replicate]
  split <;> rfl
theorem start_wf (N : List (List Nat)) : WF N (startS N) :=
  ⟨by simp [startS], by simp [startS], by simp [startS], by simp [startS, List.count_replicate], by simp [startS], fun x hx => by cases hx⟩
theorem start_inv (N : List (List Nat)) : TInv N (startS N) [] := by
  have hm : ∀ x, mt (startS N) x = 0 := fun x => getD_rep _ _ _ rfl x
  have hg : ∀ x, gof (startS N) x = none := fun x => getD_rep _ _ _ rfl x
  refine ⟨start_wf N, fun x => by rw [hm]; exact Nat.zero_le _, List.Pairwise.nil, fun x => ?_, fun x hx => hx, fun x hx => absurd (hm x) hx, fun x hx => (by cases hx), fun y hy => (by cases hy), fun x hx => absurd (hg x) hx, fun x j hj => ?_, fun j g hj => ?_, fun x j hj => ?_, fun x j hj => ?_⟩
  · rw [hm]
    constructor
    · intro h; cases h
    · intro h; exact absurd rfl h.1
  · rw [hg] at hj; cases hj
  · simp [startS] at hj
  · rw [hg] at hj; cases hj
  · rw [hg] at hj; cases hj
/-- No thing is on its way: the stack is empty. -/
theorem TInv.bare {N : List (List Nat)} {s : St} (h : TInv N s []) : s.stk = [] := by
  cases hs : s.stk with
  | nil => rfl
  | cons x l =>
    obtain ⟨g, hg, _⟩ := h.up x (by rw [hs]; exact List.mem_cons_self ..)
    cases hg
theorem loop_inv {N : List (List Nat)} (hr : Rng N) : ∀ (is : List Nat) (s : St), (∀ i ∈ is, i < N.length) → TInv N s [] → ∃ s', loopP N N.length is s = some s' ∧ TInv N s' [] ∧ Keep s s' ∧ ∀ i ∈ is, mt s' i ≠ 0
  | [], s, _, h => ⟨s, rfl, h, Keep.refl s, fun i hi => by cases hi⟩
  | i :: is, s, his, h => by
    have hi := his i (List.mem_cons_self ..)
    have his' : ∀ i ∈ is, i < N.length := fun i h => his i (List.mem_cons_of_mem _ h)
    rw [loopP]
    by_cases h0 : mt s i = 0
    · rw [if_pos h0]
      have hc : s.met.count 0 ≤ N.length := by rw [← h.wf.m]; exact List.count_le_length
      obtain ⟨s1, e, p⟩ := vis_inv hr N.length i s [] h hi h0 (fun g hg => by cases hg) hc
      rw [e]
      obtain ⟨s', e', a, b, c⟩ := loop_inv hr is s1 his' p.inv
      refine ⟨s', e', a, p.keep.trans b, fun x hx => ?_⟩
      rcases List.mem_cons.1 hx with rfl | hx
      · have h1 : mt s1 x ≠ 0 := by rw [p.met]; omega
        rw [b.km x h1]; exact h1
      · exact c x hx
    · rw [if_neg h0]
      obtain ⟨s', e', a, b, c⟩ := loop_inv hr is s his' h
      refine ⟨s', e', a, b, fun x hx => ?_⟩
      rcases List.mem_cons.1 hx with rfl | hx
      · rw [b.km x h0]; exact h0
      · exact c x hx
/-- The walk's end: everything is in a group. -/
structure Done (N : List (List Nat)) (s : St) : Prop where
  inv : TInv N s []
  all : ∀ x, x < N.length → gof s x ≠ none
theorem TInv.inN {N : List (List Nat)} {s : St} {G : List Nat} (h : TInv N s G) {x j : Nat} (hx : gof s x = some j) : x < N.length := by
  apply Decidable.byContradiction
  intro hn
  unfold gof at hx
  rw [List.getD_eq_getElem?_getD, List.getElem?_eq_none (by rw [h.wf.o]; omega)] at hx
  cases hx
theorem parts_done {N : List (List Nat)} (hr : Rng N) : ∃ s, loopP N N.length (List.range N.length) (startS N) = some s ∧ Done N s := by
  obtain ⟨s, e, a, _, c⟩ := loop_inv hr (List.range N.length) (startS N) (fun i hi => List.mem_range.1 hi) (start_inv N)
  refine ⟨s, e, a, fun x hx hn => ?_⟩
  have := (a.on x).2 ⟨c x (List.mem_range.2 hx), hn⟩
  rw [a.bare] at this
  cases this
/-! Warshall. -/
inductive Pth (N : List (List Nat)) (m : Nat) : Nat → Nat → Prop
  | one {i k : Nat} : k ∈ nd N i → Pth N m i k
  | cons {i x k : Nat} : x ∈ nd N i → x < m → Pth N m x k → Pth N m i k
theorem Pth.split {N : List (List Nat)} {m i k : Nat} (h : Pth N (m + 1) i k) : Pth N m i k ∨ (Pth N m i m ∧ Pth N m m k) := by
  induction h with
  | one h => exact .inl (.one h)
  | @cons i x k hx hl _ ih =>
    by_cases hxm : x = m
    · subst hxm
      rcases ih with ih | ih
      · exact .inr ⟨.one hx, ih⟩
      · exact .inr ⟨.one hx, ih.2⟩
    · have hl' : x < m := by omega
      rcases ih with ih | ih
      · exact .inl (.cons hx hl' ih)
      · exact .inr ⟨.cons hx hl' ih.1, ih.2⟩
/-- x reaches k by one step at least. -/
def Rch1 (N : List (List Nat)) (i k : Nat) : Prop := ∃ x ∈ nd N i, Rch N x k
theorem Rch1.rch {N : List (List Nat)} {i k : Nat} (h : Rch1 N i k) : Rch N i k := by
  obtain ⟨x, hx, h⟩ := h
  exact .step hx h
theorem Rch.one_of_ne {N : List (List Nat)} {i k : Nat} (h : Rch N i k) (hne : i ≠ k) : Rch1 N i k := by
  cases h with
  | refl => exact absurd rfl hne
  | step hk h => exact ⟨_, hk, h⟩
theorem Rch1.trans {N : List (List Nat)} {i j k : Nat} (h : Rch1 N i j) (h2 : Rch N j k) : Rch1 N i k := by
  obtain ⟨x, hx, h⟩ := h
  exact ⟨x, hx, h.trans h2⟩
def zN (N : List (List Nat)) : List (List Int) := N.map zofI
where zofI (l : List Nat) : List Int := l.map fun (n : Nat) => (n : Int)
theorem zN_at (N : List (List Nat)) (i : Nat) : (zN N).getD i [] = (nd N i).map fun (n : Nat) => (n : Int) := by
  unfold zN nd
  rw [List.getD_eq_getElem?_getD, List.getD_eq_getElem?_getD, List.getElem?_map]
  cases N[i]? <;> rfl
theorem need_iff (N : List (List Nat)) (i k : Nat) : needB (zN N) i k = true ↔ k ∈ nd N i := by
  unfold needB
  rw [zN_at]
  simp only [List.elem_eq_mem, decide_eq_true_eq, List.mem_map]
  constructor
  · rintro ⟨a, ha, e⟩
    have : a = k := by omega
    exact this ▸ ha
  · intro h; exact ⟨k, h, rfl⟩
theorem reach_sound (N : List (List Nat)) (n : Nat) : ∀ (m i k : Nat), reachB n (zN N) m i k = true → Rch1 N i k
  | 0, i, k, h => ⟨k, (need_iff N i k).1 h, .refl k⟩
  | m + 1, i, k, h => by
    have h' : (reachB n (zN N) m i k || (decide (i < n) && decide (k < n) && (reachB n (zN N) m i m && reachB n (zN N) m m k))) = true := h
    simp only [Bool.or_eq_true, Bool.and_eq_true] at h'
    rcases h' with h' | ⟨_, h1, h2⟩
    · exact reach_sound N n m i k h'
    · exact (reach_sound N n m i m h1).trans (reach_sound N n m m k h2).rch
theorem reach_comp (N : List (List Nat)) (n : Nat) : ∀ (m i k : Nat), m ≤ n → i < n → k < n → Pth N m i k → reachB n (zN N) m i k = true
  | 0, i, k, _, hi, hk, h => by
    cases h with
    | one h => exact (need_iff N i k).2 h
    | cons _ hl _ => omega
  | m + 1, i, k, hm, hi, hk, h => by
    show (reachB n (zN N) m i k || (decide (i < n) && decide (k < n) && (reachB n (zN N) m i m && reachB n (zN N) m m k))) = true
    simp only [Bool.or_eq_true, Bool.and_eq_true, decide_eq_true_eq]
    rcases h.split with h | ⟨h1, h2⟩
    · exact .inl (reach_comp N n m i k (by omega) hi hk h)
    · exact .inr ⟨⟨hi, hk⟩, reach_comp N n m i m (by omega) hi (by omega) h1, reach_comp N n m m k (by omega) (by omega) hk h2⟩
theorem Rch.lt {N : List (List Nat)} (hr : Rng N) {x y : Nat} (h : Rch N x y) (hx : x < N.length) : y < N.length := h.closed (P := fun x => x < N.length) (fun x _ k hk => hr.at x k hk) hx
theorem pth_of {N : List (List Nat)} (hr : Rng N) {x k : Nat} (h : Rch N x k) : ∀ i, x ∈ nd N i → Pth N N.length i k := by
  induction h with
  | refl => exact fun i hi => .one hi
  | step hk _ ih => exact fun i hi => .cons hi (hr.at i _ hi) (ih _ hk)
/-- Does i reach k (by one step at least)? -/
def RB (N : List (List Nat)) (i k : Nat) : Bool := reachB N.length (zN N) N.length i k
theorem RB_iff {N : List (List Nat)} (hr : Rng N) {i k : Nat} (hi : i < N.length) : RB N i k = true ↔ Rch1 N i k := by
  constructor
  · exact reach_sound N _ _ i k
  · rintro ⟨x, hx, h⟩
    exact reach_comp N _ _ i k (Nat.le_refl _) hi (h.lt hr (hr.at i x hx)) (pth_of hr h i hx)
def tog (N : List (List Nat)) (i k : Nat) : Bool := i == k || (RB N i k && RB N k i)
theorem tog_iff {N : List (List Nat)} (hr : Rng N) {i k : Nat} (hi : i < N.length) (hk : k < N.length) : tog N i k = true ↔ Rch N i k ∧ Rch N k i := by
  unfold tog
  simp only [Bool.or_eq_true, Bool.and_eq_true, beq_iff_eq, RB_iff hr hi, RB_iff hr hk]
  constructor
  · rintro (rfl | ⟨h1, h2⟩)
    · exact ⟨.refl _, .refl _⟩
    · exact ⟨h1.rch, h2.rch⟩
  · rintro ⟨h1, h2⟩
    by_cases h : i = k
    · exact .inl h
    · exact .inr ⟨h1.one_of_ne h, h2.one_of_ne (fun e => h e.symm)⟩
end Go.Proofs.Ytkfdklocgpgbfaa
namespace Go.Proofs.Ytkfdklocgpgbfaa
open Go.RowKit Go.Deep

/-- Rows of bools in new memory: r of them, n cells each. -/
structure MatF (base : Nat) (W : World) (v : Value) (B : Nat → Nat) (n r : Nat) (f : Nat → Nat → Bool) : Prop where
  own : W.ownsRow base 34 1 v r ((List.range r).map fun j => .slice (some ⟨B j, 0, none⟩) n n)
  lo : ∀ j, j < r → base ≤ B j
  inj : ∀ i j, i < r → j < r → B i = B j → i = j
  row : ∀ j, j < r → W.rowIs (B j) 4 n (fun c => .bool (f j c))
theorem MatF.ne {base : Nat} {W : World} {v : Value} {B : Nat → Nat} {n r : Nat} {f : Nat → Nat → Bool} (h : MatF base W v B n r f) {j : Nat} (hj : j < r) : v.ownBlock ≠ some (B j) := fun e => by
  rcases h.own.2 with ⟨rfl, _⟩ | ⟨g, cap, cur, rfl, _, h1, _⟩
  · cases e
  · cases e
    obtain ⟨c, h2, _⟩ := h.row j hj
    rw [h1] at h2
    cases h2
theorem grownBy_set (W : World) (a : Addr) (v : Value) : W.grownBy (W.setCell a v) (some a.block) :=
  ⟨rfl, rfl, rfl, by simp, fun k _ hk => Go.Deep.blk_setCell_other _ _ _ _ (fun e => hk (by rw [e]))⟩
theorem MatF.keep {base : Nat} {W W' : World} {v : Value} {B : Nat → Nat} {n r : Nat} {f : Nat → Nat → Bool} (h : MatF base W v B n r f) {row : Option Nat} (hg : W.grownBy W' row) (h1 : v.ownBlock = none ∨ v.ownBlock ≠ row) (h2 : ∀ j, j < r → some (B j) ≠ row) : MatF base W' v B n r f :=
  ⟨h.own.kept hg h1, h.lo, h.inj, fun j hj => (h.row j hj).of_block (hg.block _ (h.row j hj).lt (h2 j hj))⟩
theorem MatF.alloc {base : Nat} {W : World} {v : Value} {B : Nat → Nat} {n r : Nat} {f : Nat → Nat → Bool} (h : MatF base W v B n r f) (o : Obj) : MatF base (W.alloc o) v B n r f :=
  ⟨h.own.alloc o, h.lo, h.inj, fun j hj => (h.row j hj).alloc o⟩
theorem MatF.set {base : Nat} {W : World} {v : Value} {B : Nat → Nat} {n r : Nat} {f : Nat → Nat → Bool} (h : MatF base W v B n r f) {i : Nat} (hi : i < r) (k : Nat) (b : Bool) : MatF base (W.setCell ⟨B i, k, none⟩ (.bool b)) v B n r (fun j c => if j = i ∧ c = k then b else f j c) :=
  ⟨h.own.kept (grownBy_set W _ _) (.inr (h.ne hi)), h.lo, h.inj, fun j hj => by
    by_cases hji : j = i
    · subst hji
      exact ((h.row j hj).set k _).congr fun c _ => by by_cases hc : c = k <;> simp [hc]
    · exact ((h.row j hj).setOther (fun e => hji (h.inj j i hj hi e)) _).congr fun c _ => by simp [hji]⟩
theorem MatF.congr {base : Nat} {W : World} {v : Value} {B : Nat → Nat} {n r : Nat} {f g : Nat → Nat → Bool} (h : MatF base W v B n r f) (e : ∀ j c, j < r → c < n → f j c = g j c) : MatF base W v B n r g :=
  ⟨h.own, h.lo, h.inj, fun j hj => (h.row j hj).congr fun c hc => by rw [e j c hj hc]⟩
/-- A row more. -/
theorem MatF.push {base : Nat} {W W' : World} {v v' : Value} {B : Nat → Nat} {n r b : Nat} {f : Nat → Nat → Bool} {p : Nat → Bool} (h : MatF base W v B n r f) (hb : base ≤ b) (hnew : ∀ j, j < r → B j ≠ b) (hrow : W.rowIs b 4 n (fun c => .bool (p c)))
    (hown : W'.ownsRow base 34 1 v' (r + 1) ((List.range r).map (fun j => Value.slice (some ⟨B j, 0, none⟩) n n) ++ [.slice (some ⟨b, 0, none⟩) n n])) (hg : W.grownBy W' v.ownBlock) (hvb : v.ownBlock ≠ some b) :
    MatF base W' v' (fun j => if j = r then b else B j) n (r + 1) (fun j c => if j = r then p c else f j c) := by
  refine ⟨?_, fun j hj => ?_, fun i j hi hj e => ?_, fun j hj => ?_⟩
  · rw [List.range_succ, List.map_append]
    have e1 : ((List.range r).map fun j => Value.slice (some ⟨if j = r then b else B j, 0, none⟩) n n) = (List.range r).map fun j => Value.slice (some ⟨B j, 0, none⟩) n n := List.map_congr_left fun j hj => by
      have := List.mem_range.1 hj
      rw [if_neg (by omega)]
    rw [e1]
    simpa using hown
  · show base ≤ if j = r then b else B j
    split
    · exact hb
    · exact h.lo j (by omega)
  · have e' : (if i = r then b else B i) = (if j = r then b else B j) := e
    by_cases h1 : i = r
    · by_cases h2 : j = r
      · omega
      · rw [if_pos h1, if_neg h2] at e'
        exact absurd e'.symm (hnew j (by omega))
    · by_cases h2 : j = r
      · rw [if_neg h1, if_pos h2] at e'
        exact absurd e' (hnew i (by omega))
      · rw [if_neg h1, if_neg h2] at e'
        exact h.inj i j (by omega) (by omega) e'
  · by_cases h1 : j = r
    · subst h1
      simp only [if_true]
      exact hrow.of_block (hg.block _ hrow.lt (fun e => hvb e.symm))
    · simp only [h1, if_false]
      exact (h.row j (by omega)).of_block (hg.block _ (h.row j (by omega)).lt (fun e => h.ne (j := j) (by omega) e.symm))
/-- What comes in: rows of needs, that lie as they lay. -/
structure NdAt (w : World) (gb ob : Nat) (N : List (List Nat)) (A : Nat → Option Addr) (C Ab Ao : Nat → Nat) : Prop where
  row : ∀ i, i < N.length → w.cell? ⟨gb, ob + i, none⟩ = some (.slice (A i) (nd N i).length (C i))
  at_ : ∀ i, i < N.length → ∀ q (h : q < (nd N i).length), A i = some ⟨Ab i, Ao i, none⟩ ∧ w.cell? ⟨Ab i, Ao i + q, none⟩ = some (.int .i64 ((nd N i)[q] : Int))
theorem NdAt.below {w w' : World} {gb ob : Nat} {N : List (List Nat)} {A : Nat → Option Addr} {C Ab Ao : Nat → Nat} (h : NdAt w gb ob N A C Ab Ao) (hb : Below w.heap.size w w') : NdAt w' gb ob N A C Ab Ao :=
  ⟨fun i hi => (hb.cell (p := ⟨gb, ob + i, none⟩) (World.block_lt_of_cell? w _ (h.row i hi))).trans (h.row i hi), fun i hi q hq => ⟨(h.at_ i hi q hq).1, (hb.cell (p := ⟨Ab i, Ao i + q, none⟩) (World.block_lt_of_cell? w _ (h.at_ i hi q hq).2)).trans (h.at_ i hi q hq).2⟩⟩
theorem info34 : (Try.prog.info? 34).map (fun i => (i.zero, i.size, i.bytes)) = some (some (.slice none 0 0), 1, 24) := by kernel_rfl
theorem info4 : (Try.prog.info? 4).map (fun i => (i.zero, i.size, i.bytes)) = some (some (.bool false), 1, 1) := by kernel_rfl
/-- The first rows: who needs whom. -/
def rowQ (r : List Nat) (q c : Nat) : Bool := decide (c ∈ r.take q)
def rowA (N : List (List Nat)) (i c : Nat) : Bool := rowQ (nd N i) (nd N i).length c
theorem wr2 {n : Nat} (h : n < 9000000000000000000) : IntKind.i64.wrap ((n : Int) + 1) = ((n + 1 : Nat) : Int) := by rw [IntKind.wrap_i64]; omega
/-- The rows in the middle of round m: those before (q, k) are of round m + 1. -/
def curM (N : List (List Nat)) (m q k j c : Nat) : Bool := if j < q ∨ (j = q ∧ c < k) then reachB N.length (zN N) (m + 1) j c else reachB N.length (zN N) m j c
theorem reachB_succ (n : Nat) (z : List (List Int)) (m i k : Nat) : reachB n z (m + 1) i k = (reachB n z m i k || (decide (i < n) && decide (k < n) && (reachB n z m i m && reachB n z m m k))) := rfl
theorem curM_start (N : List (List Nat)) (m j c : Nat) : reachB N.length (zN N) m j c = curM N m 0 0 j c := by
  unfold curM
  rw [if_neg (by omega)]
theorem curM_left (N : List (List Nat)) {m q k : Nat} (hq : q < N.length) (hm : m < N.length) : curM N m q k q m = reachB N.length (zN N) m q m := by
  unfold curM
  split
  · rw [reachB_succ]
    cases reachB N.length (zN N) m q m <;> simp
  · rfl
theorem curM_right (N : List (List Nat)) {m q k : Nat} (hk : k < N.length) (hm : m < N.length) : curM N m q k m k = reachB N.length (zN N) m m k := by
  unfold curM
  split
  · rw [reachB_succ]
    cases reachB N.length (zN N) m m k <;> simp
  · rfl
theorem curM_no (N : List (List Nat)) {m q k : Nat} (hq : q < N.length) (hk : k < N.length) (e : (reachB N.length (zN N) m q m && reachB N.length (zN N) m m k) = false) (j c : Nat) : curM N m q k j c = curM N m q (k + 1) j c := by
  unfold curM
  by_cases h1 : j < q ∨ (j = q ∧ c < k)
  · rw [if_pos h1, if_pos (by omega)]
  · rw [if_neg h1]
    by_cases h2 : j = q ∧ c = k
    · rw [if_pos (by omega), h2.1, h2.2, reachB_succ, e]
      simp
    · rw [if_neg (by omega)]
theorem curM_yes (N : List (List Nat)) {m q k : Nat} (hq : q < N.length) (hk : k < N.length) (e : (reachB N.length (zN N) m q m && reachB N.length (zN N) m m k) = true) (j c : Nat) : (if j = q ∧ c = k then true else curM N m q k j c) = curM N m q (k + 1) j c := by
  by_cases h2 : j = q ∧ c = k
  · rw [if_pos h2]
    unfold curM
    rw [if_pos (by omega), h2.1, h2.2, reachB_succ, e]
    simp [hq, hk]
  · rw [if_neg h2]
    unfold curM
    by_cases h1 : j < q ∨ (j = q ∧ c < k)
    · rw [if_pos h1, if_pos (by omega)]
    · rw [if_neg h1, if_neg (by omega)]
theorem curM_next (N : List (List Nat)) (m q j c : Nat) (hc : c < N.length) : curM N m q N.length j c = curM N m (q + 1) 0 j c := by
  unfold curM
  by_cases h1 : j < q ∨ (j = q ∧ c < N.length)
  · rw [if_pos h1, if_pos (by omega)]
  · rw [if_neg h1, if_neg (by omega)]
theorem curM_end (N : List (List Nat)) (m j c : Nat) (hj : j < N.length) : curM N m N.length 0 j c = reachB N.length (zN N) (m + 1) j c := by
  unfold curM
  rw [if_pos (.inl hj)]
theorem rowA_need (N : List (List Nat)) (j c : Nat) : rowA N j c = reachB N.length (zN N) 0 j c := by
  show rowA N j c = needB (zN N) j c
  have h1 : rowA N j c = true ↔ needB (zN N) j c = true := by
    rw [need_iff, rowA, rowQ, decide_eq_true_eq, List.take_length]
  exact Bool.eq_iff_iff.2 h1
/-- The row's head in the outer row. -/
theorem MatF.head {base g cap : Nat} {W : World} {B : Nat → Nat} {n r : Nat} {f : Nat → Nat → Bool} (h : MatF base W (.slice (some ⟨g, 0, none⟩) r cap) B n r f) {j : Nat} (hj : j < r) : W.cell? ⟨g, j, none⟩ = some (.slice (some ⟨B j, 0, none⟩) n n) := by
  rw [h.own.cellAt j (by omega), List.getElem?_map, List.getElem?_range hj]
  rfl
set_option maxHeartbeats 2000000 in
set_option maxRecDepth 100000 in
theorem reach_any (gb ob cap : Nat) (N : List (List Nat)) (A : Nat → Option Addr) (C Ab Ao : Nat → Nat) (w : World) (hr : Rng N) (hn0 : 0 < N.length) (hn : N.length ≤ 100000) (hl : ∀ i, i < N.length → (nd N i).length < 9000000000000000000) (h : NdAt w gb ob N A C Ab Ao) :
    Calls Try.prog 12 #[.slice (some ⟨gb, ob, none⟩) N.length cap] w fun e w' => ∃ B v, e = .returned v ∧ MatF w.heap.size w' v B N.length N.length (fun i k => RB N i k) ∧ Below w.heap.size w w' := by
  obtain ⟨i34, hi34, hz0, hz1, hz2⟩ := info_parts info34
  go_enter Try.func12, Try.ntmps12
  go_wp2
  go_loopg [3, 4] N.length (fun g o i wr => ∃ (v : Value) (k : Nat) (B : Nat → Nat), v = o ∧ i = .int .i64 (k : Int) ∧ k ≤ N.length ∧ g = N.length - k ∧ MatF w.heap.size wr o B N.length k (rowA N) ∧ Below w.heap.size w wr)
  case atStart =>
    exact ⟨_, 0, fun _ => 0, rfl, rfl, Nat.zero_le _, rfl, ⟨World.ownsRow_nil _ _ _ _, fun j hj => absurd hj (Nat.not_lt_zero _), fun i j hi _ _ => absurd hi (Nat.not_lt_zero _), fun j hj => absurd hj (Nat.not_lt_zero _)⟩, Below.refl _ _⟩
  case round =>
    obtain ⟨o, k, B, rfl, rfl, hk, rfl, hM, hb⟩ := hrel
    have hA := h.below hb
    have hbase := hb.size
    by_cases hkn : k < N.length
    · have hkn' : (k : Int) < N.length := by omega
      have hrow := hA.row k hkn
      have hmk := run_make_row' (P := Try.prog) 34 4 (.bool false) 1 Try.underlying34 info4 rfl .i64 .i64 N.length (by omega) (by omega)
      have hlk := hl k hkn
      obtain ⟨rk, hrk⟩ : ∃ rk, rk = nd N k := ⟨_, rfl⟩
      rw [← hrk] at hlk hrow
      have HRK := Lib.hid hrk
      have hrng : ∀ q (h : q < rk.length), rk[q] < N.length := fun q hq => hr.at k _ (hrk ▸ List.getElem_mem hq)
      clear hrk
      go_wp2
      clear hmk
      have hM0 := hM.alloc (.cells (madeCells #[.bool false] N.length) 4)
      have hr0 := World.rowIs_made wr (.bool false) N.length 4
      have hb0 : Below w.heap.size w (wr.alloc (.cells (madeCells #[.bool false] N.length) 4)) := hb.alloc hbase _
      have hs0 : (wr.alloc (.cells (madeCells #[.bool false] N.length) 4)).heap.size = wr.heap.size + 1 := by simp
      generalize wr.alloc (.cells (madeCells #[.bool false] N.length) 4) = W0 at hM0 hr0 hb0 hs0 ⊢
      clear hrow hA
      have hold : ∀ j, j < k → B j ≠ wr.heap.size := fun j hj e => by
        have := (hM.row j hj).lt
        omega
      have hown0 : ∀ g, o.ownBlock = some g → w.heap.size ≤ g ∧ g < wr.heap.size := fun g hg => hM.own.lt g hg
      generalize wr.heap.size = b at hbase hs0 hr0 hold hown0 ⊢
      clear hM hb
      go_loopg [6] (rk.length) (fun g j wi => ∃ q : Nat, j = .int .i64 (q : Int) ∧ q ≤ rk.length ∧ g = rk.length - q ∧ MatF w.heap.size wi o B N.length k (rowA N) ∧ wi.rowIs b 4 N.length (fun c => .bool (rowQ rk q c)) ∧ Below w.heap.size w wi ∧ W0.heap.size ≤ wi.heap.size)
      case atStart => exact ⟨0, rfl, Nat.zero_le _, rfl, hM0, hr0.congr fun c _ => by simp [rowQ], hb0, Nat.le_refl _⟩
      case round =>
        obtain ⟨q, rfl, hq, rfl, hMi, hri, hbi, hsi⟩ := hrel
        have hAi := h.below hbi
        have hrow := hAi.row k hkn
        rw [← HRK.out] at hrow
        by_cases hql : q < rk.length
        · have hql' : (q : Int) < rk.length := by omega
          have hat := hAi.at_ k hkn
          rw [← HRK.out] at hat
          obtain ⟨hAk, hcell⟩ := hat q hql
          rw [hAk] at hrow
          have hx : rk[q] < N.length := hrng q hql
          have hx' : (rk[q] : Int) < N.length := by omega
          have htk : rk.take (q + 1) = rk.take q ++ [rk[q]] := by rw [List.take_add_one, List.getElem?_eq_getElem hql]; rfl
          have hfr := hri.frozen (rk[q])
          have hcx := hri.cell hx
          have hset := (hri.set (rk[q]) (.bool true)).congr (g := fun c => .bool (rowQ rk (q + 1) c)) fun c _ => by
            unfold rowQ
            rw [htk]
            by_cases hc : c = rk[q]
            · rw [if_pos hc]
              congr 1
              exact (decide_eq_true (List.mem_append.2 (.inr (List.mem_singleton.2 hc)))).symm
            · rw [if_neg hc]
              congr 1
              refine decide_eq_decide.2 ⟨fun h5 => List.mem_append.2 (.inl h5), fun h5 => (List.mem_append.1 h5).resolve_right (fun h6 => hc (List.mem_singleton.1 h6))⟩
          have hMs := hMi.keep (grownBy_set wr ⟨b, rk[q], none⟩ (.bool true)) (by
            cases ho : o.ownBlock with
            | none => exact .inl rfl
            | some g =>
              right
              intro e
              have h1 := (hown0 g ho).2
              have h2 : g = b := Option.some.inj e
              omega) (fun j hj e => hold j hj (Option.some.inj e))
          have hbs : Below w.heap.size w (wr.setCell ⟨b, rk[q], none⟩ (.bool true)) := hbi.setCell (p := ⟨b, rk[q], none⟩) hbase _
          obtain ⟨x, hxe⟩ : ∃ x, x = rk[q] := ⟨_, rfl⟩
          rw [← hxe] at hcell hx hx' hfr hcx hset hMs hbs
          clear hxe htk hrng hat
          have e0 := wr2 (n := q) (by omega)
          clear hAi hMi hri hbi
          go_wp2
          go_roundg (rk.length - (q + 1))
          case measure => omega
          case rel => exact ⟨q + 1, congrArg (Value.int .i64) (by omega), by omega, rfl, hMs, hset, hbs, by simpa using hsi⟩
        · have hql' : ¬ (q : Int) < rk.length := by omega
          have hqe : q = rk.length := by omega
          subst hqe
          have e0 := wr2 (n := k) (by omega)
          have hbi' := hbi.size
          clear hAi
          go_wp2_with (at_builtin; refine wpList_append_own _ rfl _ _ 32 rfl w.heap.size 34 i34 (.slice none 0 0) 1 24 Try.underlying32 hi34 hz0 hz1 hz2 rfl (by decide) o k ((List.range k).map fun j => .slice (some ⟨B j, 0, none⟩) N.length N.length) rfl (hMi.own.alloc _) ⟨wr.heap.size, 0, none⟩ 1 1 [.slice (some ⟨b, 0, none⟩) N.length N.length] rfl rfl ?_ ?_ ?_ ?_ ?_ ?_)
          · rfl
          · unfold maxLen; omega
          · omega
          · have h9 := hbi'; simp at h9 ⊢; omega
          · intro v' w3 hown' hgr hnil
            have hvb : o.ownBlock ≠ some b := fun e => by
              have := (hown0 _ e).2
              omega
            have hP := (hMi.alloc (.cells #[.slice (some ⟨b, 0, none⟩) N.length N.length] 34)).push hbase hold (hri.alloc _) hown' hgr hvb
            have hb3 : Below w.heap.size w w3 := (hbi.alloc hbi' _).grown hgr (by simp; omega) (fun g hg => (hown0 g hg).1)
            have hP2 := hP.congr (g := rowA N) (fun j c hj hc => by
              by_cases hjk : j = k
              · rw [if_pos hjk, hjk, rowA, ← HRK.out]
              · rw [if_neg hjk])
            clear hgr hown' hP hMi hri hbi
            go_wp2
            go_roundg (N.length - (k + 1))
            case measure => omega
            case rel => exact ⟨_, k + 1, _, rfl, congrArg (Value.int .i64) (by omega), by omega, rfl, hP2, hb3⟩
    · have hke : k = N.length := by omega
      subst hke
      have hkn' : ¬ ((N.length : Int) < N.length) := by omega
      obtain ⟨g, cap2, rfl, hg1, hg2⟩ := hM.own.form hn0
      clear hg2
      have hM0 : MatF w.heap.size wr (.slice (some ⟨g, 0, none⟩) N.length cap2) B N.length N.length (reachB N.length (zN N) 0) := hM.congr fun j c hj hc => rowA_need N j c
      clear hM hA hl h
      generalize wr.heap.size = hsz at *
      go_wp2
      clear hkn hkn'
      go_loopg [7] N.length (fun gg i wi => ∃ m : Nat, i = .int .i64 (m : Int) ∧ m ≤ N.length ∧ gg = N.length - m ∧ MatF w.heap.size wi (.slice (some ⟨g, 0, none⟩) N.length cap2) B N.length N.length (reachB N.length (zN N) m) ∧ Below w.heap.size w wi)
      case atStart => exact ⟨0, rfl, Nat.zero_le _, rfl, hM0, hb⟩
      case round =>
        obtain ⟨m, rfl, hm, rfl, hMm, hbm⟩ := hrel
        clear hM0 hb
        by_cases hmn : m < N.length
        · have hmn' : (m : Int) < N.length := by omega
          have e0 := wr2 (n := m) (by omega)
          go_wp2
          go_loopg [8] N.length (fun gg i wi => ∃ q : Nat, i = .int .i64 (q : Int) ∧ q ≤ N.length ∧ gg = N.length - q ∧ MatF w.heap.size wi (.slice (some ⟨g, 0, none⟩) N.length cap2) B N.length N.length (curM N m q 0) ∧ Below w.heap.size w wi)
          case atStart => exact ⟨0, rfl, Nat.zero_le _, rfl, hMm.congr fun j c _ _ => curM_start N m j c, hbm⟩
          case round =>
            obtain ⟨q, rfl, hq, rfl, hMq, hbq⟩ := hrel
            clear hMm hbm
            by_cases hqn : q < N.length
            · have hqn' : (q : Int) < N.length := by omega
              have e1 := wr2 (n := q) (by omega)
              go_wp2
              go_loopg [9] N.length (fun gg i wi => ∃ k : Nat, i = .int .i64 (k : Int) ∧ k ≤ N.length ∧ gg = N.length - k ∧ MatF w.heap.size wi (.slice (some ⟨g, 0, none⟩) N.length cap2) B N.length N.length (curM N m q k) ∧ Below w.heap.size w wi)
              case atStart => exact ⟨0, rfl, Nat.zero_le _, rfl, hMq, hbq⟩
              case round =>
                obtain ⟨k, rfl, hk, rfl, hMk, hbk⟩ := hrel
                clear hMq hbq
                by_cases hkn : k < N.length
                · have hkn' : (k : Int) < N.length := by omega
                  have e2 := wr2 (n := k) (by omega)
                  have c1 := hMk.head hqn
                  have c2 := hMk.head hmn
                  have c3 := (hMk.row q hqn).cell hmn
                  have c4 := (hMk.row m hmn).cell hkn
                  rw [curM_left N hqn hmn] at c3
                  rw [curM_right N hkn hmn] at c4
                  have c5 := (hMk.row q hqn).frozen k
                  have c6 := (hMk.row q hqn).cell hkn
                  generalize curM N m q k q k = z0 at c6
                  have hset := (hMk.set hqn k true)
                  have hblo := hMk.lo q hqn
                  have hbs : Below w.heap.size w (wr.setCell ⟨B q, k, none⟩ (.bool true)) := hbk.setCell (p := ⟨B q, k, none⟩) hblo _
                  have hno : (reachB N.length (zN N) m q m && reachB N.length (zN N) m m k) = false → MatF w.heap.size wr (.slice (some ⟨g, 0, none⟩) N.length cap2) B N.length N.length (curM N m q (k + 1)) := fun e => hMk.congr fun j c _ hc => curM_no N hqn hkn e j c
                  have hyes : (reachB N.length (zN N) m q m && reachB N.length (zN N) m m k) = true → MatF w.heap.size (wr.setCell ⟨B q, k, none⟩ (.bool true)) (.slice (some ⟨g, 0, none⟩) N.length cap2) B N.length N.length (curM N m q (k + 1)) := fun e => hset.congr fun j c _ hc => curM_yes N hqn hkn e j c
                  clear hset hMk
                  generalize reachB N.length (zN N) m q m = x at *
                  generalize reachB N.length (zN N) m m k = y at *
                  cases x with
                  | false =>
                    have hz := hno rfl
                    clear hno hyes hbs
                    go_wp2
                    go_roundg (N.length - (k + 1))
                    case measure => omega
                    case rel => exact ⟨k + 1, congrArg (Value.int .i64) (by omega), by omega, rfl, hz, hbk⟩
                  | true =>
                    cases y with
                    | false =>
                      have hz := hno rfl
                      clear hno hyes hbs
                      go_wp2
                      go_roundg (N.length - (k + 1))
                      case measure => omega
                      case rel => exact ⟨k + 1, congrArg (Value.int .i64) (by omega), by omega, rfl, hz, hbk⟩
                    | true =>
                      have hz := hyes rfl
                      clear hno hyes hbk
                      go_wp2
                      go_roundg (N.length - (k + 1))
                      case measure => omega
                      case rel => exact ⟨k + 1, congrArg (Value.int .i64) (by omega), by omega, rfl, hz, hbs⟩
                · have hke : k = N.length := by omega
                  subst hke
                  have hkn' : ¬ ((N.length : Int) < N.length) := by omega
                  have hz := hMk.congr (g := curM N m (q + 1) 0) fun j c _ hc => curM_next N m q j c hc
                  clear hMk
                  go_wp2
                  go_roundg (N.length - (q + 1))
                  case measure => omega
                  case rel => exact ⟨q + 1, congrArg (Value.int .i64) (by omega), by omega, rfl, hz, hbk⟩
            · have hqe : q = N.length := by omega
              subst hqe
              have hqn' : ¬ ((N.length : Int) < N.length) := by omega
              have hz := hMq.congr (g := reachB N.length (zN N) (m + 1)) fun j c hj _ => curM_end N m j c hj
              clear hMq
              go_wp2
              go_roundg (N.length - (m + 1))
              case measure => omega
              case rel => exact ⟨m + 1, congrArg (Value.int .i64) (by omega), by omega, rfl, hz, hbq⟩
        · have hme : m = N.length := by omega
          subst hme
          have hmn' : ¬ ((N.length : Int) < N.length) := by omega
          go_wp2
          go_returns
          exact ⟨B, _, rfl, hMm, hbm⟩
end Go.Proofs.Ytkfdklocgpgbfaa
