/- An expression is the same as itself. Printed by js.py. -/
import Derived.Test.YtlfkefbhdmfllaaGreatDoorEq1
import Derived.Test.YtlfkefbhdmfllaaGreatDoorDr1
namespace Go.Proofs.YtlfkefbhdmfllaaGreatDoor
open Go.RowKit
set_option linter.unusedSimpArgs false
set_option linter.unusedVariables false
set_option linter.unusedSectionVars false

inductive Ty.Ok : Ty → Prop where
  | mk (k : Int) (s : ByteArray) (n : Int) (ks : List Ty) (h : ks.length ≤ maxN) (hk : ∀ t ∈ ks, Ty.Ok t) : Ty.Ok (.mk k s n ks)
inductive Pt.Ok : Pt → Prop where
  | mk (k : Int) (s : ByteArray) (n : Int) (ks : List Pt) (a : Int) (h : ks.length ≤ maxN) (hk : ∀ t ∈ ks, Pt.Ok t) : Pt.Ok (.mk k s n ks a)
mutual
def Ex.Ok : Ex → Prop
  | .mk _ _ _ t ks xs bs _ => t.Ok ∧ (ks.length ≤ maxN ∧ Ex.OkL ks) ∧ (xs.length ≤ maxN ∧ Al.OkL xs) ∧ (bs.length ≤ maxN ∧ Bd.OkL bs)
def Al.Ok : Al → Prop
  | .mk p e => p.Ok ∧ e.Ok
def Bd.Ok : Bd → Prop
  | .mk _ e _ => e.Ok
def Ex.OkL : List Ex → Prop
  | [] => True
  | x :: l => x.Ok ∧ Ex.OkL l
def Al.OkL : List Al → Prop
  | [] => True
  | x :: l => x.Ok ∧ Al.OkL l
def Bd.OkL : List Bd → Prop
  | [] => True
  | x :: l => x.Ok ∧ Bd.OkL l
end
theorem Ex.OkL_iff : ∀ l, Ex.OkL l ↔ ∀ x ∈ l, x.Ok
  | [] => by simp [Ex.OkL]
  | x :: l => by simp [Ex.OkL, Ex.OkL_iff l]
theorem Al.OkL_iff : ∀ l, Al.OkL l ↔ ∀ x ∈ l, x.Ok
  | [] => by simp [Al.OkL]
  | x :: l => by simp [Al.OkL, Al.OkL_iff l]
theorem Bd.OkL_iff : ∀ l, Bd.OkL l ↔ ∀ x ∈ l, x.Ok
  | [] => by simp [Bd.OkL]
  | x :: l => by simp [Bd.OkL, Bd.OkL_iff l]
theorem same_loop {α : Type} (l : List α) (q : Nat → Q) (r : Rs) (hl : l.length ≤ maxN)
    (hs : ∀ (i j : Nat) (x : α), IntKind.i64.wrap ((i : Int) + 1) = (j : Int) → l[i]? = some x → (i : Int) < (l.length : Int) → x ∈ l → body PG EE TT ev (q i) = passK (ev (q j)))
    (he : body PG EE TT ev (q l.length) = .ok r) : ev (q 0) = some r := by
  have h : ∀ (m i : Nat), i + m = l.length → ev (q i) = some r := by
    intro m
    induction m with
    | zero => intro i hi; rw [Nat.add_zero] at hi; rw [hi]; exact Evl.of he
    | succ m ih =>
      intro i hi
      have hi' : i < l.length := by omega
      obtain ⟨j, hj⟩ : ∃ j, j = i + 1 := ⟨_, rfl⟩
      exact Evl.of (by rw [hs i j l[i] (by rw [wrap_id (by unfold maxN at hl; omega)]; omega) (List.getElem?_eq_getElem hi') (by omega) (List.getElem_mem hi'), ih j (by omega)]; rfl)
  exact h l.length 0 (by omega)
def SamT (t : Ty) : Prop := ev (q17 (iv t.kind) (sv t.name) (iv t.n) (tys t.kids) (iv t.kind) (sv t.name) (iv t.n) (tys t.kids)) = some (0, [bv true])
theorem types_same (l : List Ty) (hl : l.length ≤ maxN) (h : ∀ x ∈ l, SamT x) : ev (q29 (tys l) (tys l)) = some (0, [bv true]) := by
  have lp : ev (q29b0a (iv 0) (tys l) (tys l)) = some (1, []) := same_loop l (fun i0 => q29b0a (iv (i0 : Int)) (tys l) (tys l)) (1, []) (by assumption) (fun i0 j0 x e0 hx hi0 hm => by
      show body PG EE TT ev (q29b0a (iv (i0 : Int)) (tys l) (tys l)) = passK (ev (q29b0a (iv (j0 : Int)) (tys l) (tys l)))
      rw [h29b0a, g29b0a]
      simp [hi0, idxK_tys hx]
      have g := h x hm; unfold SamT at g; simp [g]
      simp [e0]) (by
      show body PG EE TT ev (q29b0a (iv (l.length : Int)) (tys l) (tys l)) = _
      rw [h29b0a, g29b0a]
      simp)
  exact Evl.of (by rw [h29, g29]; simp [lp])
theorem type_same {t : Ty} (h : t.Ok) : SamT t := by
  induction h with
  | mk k s n ks hl hk ih =>
    have g := types_same ks hl ih
    exact Evl.of (by rw [h17, g17]; simp [Ty.kind, Ty.name, Ty.n, Ty.kids, g])
def SamP (p : Pt) : Prop := ev (q18 (iv p.kind) (sv p.name) (iv p.n) (pts p.kids) (iv p.at_) (iv p.kind) (sv p.name) (iv p.n) (pts p.kids) (iv p.at_)) = some (0, [bv true])
theorem pat_same {p : Pt} (h : p.Ok) : SamP p := by
  induction h with
  | mk k s n ks a hl hk ih =>
    have lp : ev (q18b0a (iv 0) (iv k) (sv s) (iv n) (pts ks) (iv a) (iv k) (sv s) (iv n) (pts ks) (iv a)) = some (1, [iv k, sv s, iv n, pts ks, iv a, iv k, sv s, iv n, pts ks, iv a]) := same_loop ks (fun i0 => q18b0a (iv (i0 : Int)) (iv k) (sv s) (iv n) (pts ks) (iv a) (iv k) (sv s) (iv n) (pts ks) (iv a)) (1, [iv k, sv s, iv n, pts ks, iv a, iv k, sv s, iv n, pts ks, iv a]) (by assumption) (fun i0 j0 x e0 hx hi0 hm => by
      show body PG EE TT ev (q18b0a (iv (i0 : Int)) (iv k) (sv s) (iv n) (pts ks) (iv a) (iv k) (sv s) (iv n) (pts ks) (iv a)) = passK (ev (q18b0a (iv (j0 : Int)) (iv k) (sv s) (iv n) (pts ks) (iv a) (iv k) (sv s) (iv n) (pts ks) (iv a)))
      rw [h18b0a, g18b0a]
      simp [hi0, idxK_pts hx]
      have g := ih x hm; unfold SamP at g; simp [g]
      simp [e0]) (by
      show body PG EE TT ev (q18b0a (iv (ks.length : Int)) (iv k) (sv s) (iv n) (pts ks) (iv a) (iv k) (sv s) (iv n) (pts ks) (iv a)) = _
      rw [h18b0a, g18b0a]
      simp)
    exact Evl.of (by rw [h18, g18]; simp [Pt.kind, Pt.name, Pt.n, Pt.kids, Pt.at_, lp])
def SamE (e : Ex) : Prop := ev (q8 (iv e.kind) (sv e.name) (iv e.n) (iv e.t.kind) (sv e.t.name) (iv e.t.n) (tys e.t.kids) (exs e.kids) (als e.alts) (bds e.binds) (iv e.at_) (iv e.kind) (sv e.name) (iv e.n) (iv e.t.kind) (sv e.t.name) (iv e.t.n) (tys e.t.kids) (exs e.kids) (als e.alts) (bds e.binds) (iv e.at_)) = some (0, [bv true])
theorem binds_same (l : List Bd) (hl : l.length ≤ maxN) (h : ∀ x ∈ l, SamE x.e) : ev (q9 (bds l) (bds l)) = some (0, [bv true]) := by
  have lp : ev (q9b0a (iv 0) (bds l) (bds l)) = some (1, []) := same_loop l (fun i0 => q9b0a (iv (i0 : Int)) (bds l) (bds l)) (1, []) (by assumption) (fun i0 j0 x e0 hx hi0 hm => by
      show body PG EE TT ev (q9b0a (iv (i0 : Int)) (bds l) (bds l)) = passK (ev (q9b0a (iv (j0 : Int)) (bds l) (bds l)))
      rw [h9b0a, g9b0a]
      simp [hi0, idxK_bds hx]
      have g := h x hm; unfold SamE at g; simp [g]
      simp [e0]) (by
      show body PG EE TT ev (q9b0a (iv (l.length : Int)) (bds l) (bds l)) = _
      rw [h9b0a, g9b0a]
      simp)
  exact Evl.of (by rw [h9, g9]; simp [lp])
theorem ex_step (e : Ex) (h0 : e.t.Ok) (l1 : e.kids.length ≤ maxN) (h1 : ∀ x ∈ e.kids, SamE x) (l2 : e.alts.length ≤ maxN) (h2 : ∀ x ∈ e.alts, SamP x.p ∧ SamE x.e) (l3 : e.binds.length ≤ maxN) (h3 : ∀ x ∈ e.binds, SamE x.e) : SamE e := by
  have g0 := type_same h0
  unfold SamT at g0
  have g3 := binds_same e.binds l3 h3
  have k1 : ev (q8b0a (iv 0) (iv e.kind) (sv e.name) (iv e.n) (iv e.t.kind) (sv e.t.name) (iv e.t.n) (tys e.t.kids) (exs e.kids) (als e.alts) (bds e.binds) (iv e.at_) (iv e.kind) (sv e.name) (iv e.n) (iv e.t.kind) (sv e.t.name) (iv e.t.n) (tys e.t.kids) (exs e.kids) (als e.alts) (bds e.binds) (iv e.at_)) = some (1, [iv e.kind, sv e.name, iv e.n, iv e.t.kind, sv e.t.name, iv e.t.n, tys e.t.kids, exs e.kids, als e.alts, bds e.binds, iv e.at_, iv e.kind, sv e.name, iv e.n, iv e.t.kind, sv e.t.name, iv e.t.n, tys e.t.kids, exs e.kids, als e.alts, bds e.binds, iv e.at_]) := same_loop e.kids (fun i0 => q8b0a (iv (i0 : Int)) (iv e.kind) (sv e.name) (iv e.n) (iv e.t.kind) (sv e.t.name) (iv e.t.n) (tys e.t.kids) (exs e.kids) (als e.alts) (bds e.binds) (iv e.at_) (iv e.kind) (sv e.name) (iv e.n) (iv e.t.kind) (sv e.t.name) (iv e.t.n) (tys e.t.kids) (exs e.kids) (als e.alts) (bds e.binds) (iv e.at_)) (1, [iv e.kind, sv e.name, iv e.n, iv e.t.kind, sv e.t.name, iv e.t.n, tys e.t.kids, exs e.kids, als e.alts, bds e.binds, iv e.at_, iv e.kind, sv e.name, iv e.n, iv e.t.kind, sv e.t.name, iv e.t.n, tys e.t.kids, exs e.kids, als e.alts, bds e.binds, iv e.at_]) (by assumption) (fun i0 j0 x e0 hx hi0 hm => by
      show body PG EE TT ev (q8b0a (iv (i0 : Int)) (iv e.kind) (sv e.name) (iv e.n) (iv e.t.kind) (sv e.t.name) (iv e.t.n) (tys e.t.kids) (exs e.kids) (als e.alts) (bds e.binds) (iv e.at_) (iv e.kind) (sv e.name) (iv e.n) (iv e.t.kind) (sv e.t.name) (iv e.t.n) (tys e.t.kids) (exs e.kids) (als e.alts) (bds e.binds) (iv e.at_)) = passK (ev (q8b0a (iv (j0 : Int)) (iv e.kind) (sv e.name) (iv e.n) (iv e.t.kind) (sv e.t.name) (iv e.t.n) (tys e.t.kids) (exs e.kids) (als e.alts) (bds e.binds) (iv e.at_) (iv e.kind) (sv e.name) (iv e.n) (iv e.t.kind) (sv e.t.name) (iv e.t.n) (tys e.t.kids) (exs e.kids) (als e.alts) (bds e.binds) (iv e.at_)))
      rw [h8b0a, g8b0a]
      simp [hi0, idxK_exs hx]
      have g := h1 x hm; unfold SamE at g; simp [g]
      simp [e0]) (by
      show body PG EE TT ev (q8b0a (iv (e.kids.length : Int)) (iv e.kind) (sv e.name) (iv e.n) (iv e.t.kind) (sv e.t.name) (iv e.t.n) (tys e.t.kids) (exs e.kids) (als e.alts) (bds e.binds) (iv e.at_) (iv e.kind) (sv e.name) (iv e.n) (iv e.t.kind) (sv e.t.name) (iv e.t.n) (tys e.t.kids) (exs e.kids) (als e.alts) (bds e.binds) (iv e.at_)) = _
      rw [h8b0a, g8b0a]
      simp)
  have k2 : ev (q8b2a (iv 0) (iv e.kind) (sv e.name) (iv e.n) (iv e.t.kind) (sv e.t.name) (iv e.t.n) (tys e.t.kids) (exs e.kids) (als e.alts) (bds e.binds) (iv e.at_) (iv e.kind) (sv e.name) (iv e.n) (iv e.t.kind) (sv e.t.name) (iv e.t.n) (tys e.t.kids) (exs e.kids) (als e.alts) (bds e.binds) (iv e.at_)) = some (1, [iv e.kind, sv e.name, iv e.n, iv e.t.kind, sv e.t.name, iv e.t.n, tys e.t.kids, exs e.kids, als e.alts, bds e.binds, iv e.at_, iv e.kind, sv e.name, iv e.n, iv e.t.kind, sv e.t.name, iv e.t.n, tys e.t.kids, exs e.kids, als e.alts, bds e.binds, iv e.at_]) := same_loop e.alts (fun i0 => q8b2a (iv (i0 : Int)) (iv e.kind) (sv e.name) (iv e.n) (iv e.t.kind) (sv e.t.name) (iv e.t.n) (tys e.t.kids) (exs e.kids) (als e.alts) (bds e.binds) (iv e.at_) (iv e.kind) (sv e.name) (iv e.n) (iv e.t.kind) (sv e.t.name) (iv e.t.n) (tys e.t.kids) (exs e.kids) (als e.alts) (bds e.binds) (iv e.at_)) (1, [iv e.kind, sv e.name, iv e.n, iv e.t.kind, sv e.t.name, iv e.t.n, tys e.t.kids, exs e.kids, als e.alts, bds e.binds, iv e.at_, iv e.kind, sv e.name, iv e.n, iv e.t.kind, sv e.t.name, iv e.t.n, tys e.t.kids, exs e.kids, als e.alts, bds e.binds, iv e.at_]) (by assumption) (fun i0 j0 x e0 hx hi0 hm => by
      show body PG EE TT ev (q8b2a (iv (i0 : Int)) (iv e.kind) (sv e.name) (iv e.n) (iv e.t.kind) (sv e.t.name) (iv e.t.n) (tys e.t.kids) (exs e.kids) (als e.alts) (bds e.binds) (iv e.at_) (iv e.kind) (sv e.name) (iv e.n) (iv e.t.kind) (sv e.t.name) (iv e.t.n) (tys e.t.kids) (exs e.kids) (als e.alts) (bds e.binds) (iv e.at_)) = passK (ev (q8b2a (iv (j0 : Int)) (iv e.kind) (sv e.name) (iv e.n) (iv e.t.kind) (sv e.t.name) (iv e.t.n) (tys e.t.kids) (exs e.kids) (als e.alts) (bds e.binds) (iv e.at_) (iv e.kind) (sv e.name) (iv e.n) (iv e.t.kind) (sv e.t.name) (iv e.t.n) (tys e.t.kids) (exs e.kids) (als e.alts) (bds e.binds) (iv e.at_)))
      rw [h8b2a, g8b2a]
      simp [hi0, idxK_als hx]
      obtain ⟨g, g2⟩ := h2 x hm; unfold SamP at g; unfold SamE at g2; simp [g, g2]
      simp [e0]) (by
      show body PG EE TT ev (q8b2a (iv (e.alts.length : Int)) (iv e.kind) (sv e.name) (iv e.n) (iv e.t.kind) (sv e.t.name) (iv e.t.n) (tys e.t.kids) (exs e.kids) (als e.alts) (bds e.binds) (iv e.at_) (iv e.kind) (sv e.name) (iv e.n) (iv e.t.kind) (sv e.t.name) (iv e.t.n) (tys e.t.kids) (exs e.kids) (als e.alts) (bds e.binds) (iv e.at_)) = _
      rw [h8b2a, g8b2a]
      simp)
  exact Evl.of (by
    rw [h8, g8]
    simp
    simp [g0]
    simp [g3]
    simp [k1]
    simp [k2])
mutual
theorem ex_same : ∀ (e : Ex), e.Ok → SamE e
  | .mk k s n t ks xs bs a, h => by
    rw [Ex.Ok] at h
    exact ex_step (.mk k s n t ks xs bs a) h.1 h.2.1.1 (ex_sameL ks h.2.1.2) h.2.2.1.1 (al_sameL xs h.2.2.1.2) h.2.2.2.1 (bd_sameL bs h.2.2.2.2)
theorem ex_sameL : ∀ (l : List Ex), Ex.OkL l → ∀ x ∈ l, SamE x
  | [], _, x, hx => by cases hx
  | y :: l, h, x, hx => by
    rw [Ex.OkL] at h
    exact (List.mem_cons.1 hx).elim (fun e => e ▸ ex_same y h.1) (fun hx => ex_sameL l h.2 x hx)
theorem al_sameL : ∀ (l : List Al), Al.OkL l → ∀ x ∈ l, SamP x.p ∧ SamE x.e
  | [], _, x, hx => by cases hx
  | .mk p e :: l, h, x, hx => by
    rw [Al.OkL, Al.Ok] at h
    exact (List.mem_cons.1 hx).elim (fun q => q ▸ ⟨pat_same h.1.1, ex_same e h.1.2⟩) (fun hx => al_sameL l h.2 x hx)
theorem bd_sameL : ∀ (l : List Bd), Bd.OkL l → ∀ x ∈ l, SamE x.e
  | [], _, x, hx => by cases hx
  | .mk s e a :: l, h, x, hx => by
    rw [Bd.OkL, Bd.Ok] at h
    exact (List.mem_cons.1 hx).elim (fun q => q ▸ ex_same e h.1) (fun hx => bd_sameL l h.2 x hx)
end
theorem bd_same {b : Bd} (h : b.Ok) : SamE b.e := by
  cases b with
  | mk s e a => rw [Bd.Ok] at h; exact ex_same e h
/-! What is small is right. -/
theorem Ty.ok : ∀ (n : Nat) (t : Ty), t.size ≤ n → n ≤ maxN → t.Ok := by
  intro n
  induction n with
  | zero => intro t h _; have := t.size_pos; omega
  | succ n ih =>
    intro t h hn
    cases t with
    | mk k s m ks =>
      rw [Ty.size] at h
      have h1 := Ty.len_le ks
      exact .mk k s m ks (by omega) fun x hx => ih x (by have := Ty.mem_le hx; omega) (by omega)
theorem Pt.ok : ∀ (n : Nat) (t : Pt), t.size ≤ n → n ≤ maxN → t.Ok := by
  intro n
  induction n with
  | zero => intro t h _; have := t.size_pos; omega
  | succ n ih =>
    intro t h hn
    cases t with
    | mk k s m ks a =>
      rw [Pt.size] at h
      have h1 := Pt.len_le ks
      exact .mk k s m ks a (by omega) fun x hx => ih x (by have := Pt.mem_le hx; omega) (by omega)
end Go.Proofs.YtlfkefbhdmfllaaGreatDoor
