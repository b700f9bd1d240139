/- Code and functions. -/
import Derived.Test.YtjpjcjnacnlhdaaGreatAbX
import Derived.LoopN
import Derived.Scope
namespace Go.Proofs.YtjpjcjnacnlhdaaGreat
open Go.RowKit

/-- A loop: so many rounds at most; at the head of a round only some slots are kept in sight. -/
def aloop (body : Env → List AObj → Option (AExit × Env × List AObj)) (ks : List Nat) : Nat → Env → List AObj → Option (AExit × Env × List AObj)
  | 0, _, _ => none
  | n + 1, sl, h => match body (keepE ks sl) h with
    | some (.normal, sl', h') => aloop body ks n sl' h'
    | some r => some r
    | none => none
/-- What goes with a function: the slots that are kept in sight, an order for each region that draws, and what is known of its blocks. -/
structure FT where
  keep : List Nat
  sd : Nat → List (Nat × Bool)
  lp : Option (Nat → Env → List AObj → Option (AExit × Env × List AObj)) := none
  kb : Nat → List Nat := fun _ => []
  sx : Nat → Option (Sch × List Nat) := fun _ => none
  rs : List Nat := []
  df : Bool := false
/-- A block that is known: of the slots that are named, and of the objects that they lead to. -/
def lpIds (lp : Nat → Env → List AObj → Option (AExit × Env × List AObj)) (ks : List Nat) (id : Nat) (sl : Env) (h : List AObj) (ids : List Nat) : Option (AExit × Env × List AObj) := match nodupB ids with
  | true => match subH h ids with
    | some hs => match lp id (compE (fun i => posOf i ids) sl ks) hs with
      | some (ex, e', hs') => match mergeH h ids hs' with
        | some h' => some (ex, compE (backF ids h.length) e' (slotsOf e'), h')
        | none => none
      | none => none
    | none => none
  | false => none
def lpAt (lp : Nat → Env → List AObj → Option (AExit × Env × List AObj)) (ks : List Nat) (id : Nat) (sl : Env) (h : List AObj) : Option (AExit × Env × List AObj) :=
  lpIds lp ks id sl h (reach h 1000 ((keepE ks sl).flatMap fun p => refs p.2) [])
def lpGo (T : FT) (id : Nat) (sl : Env) (h : List AObj) : Option (AExit × Env × List AObj) := match T.lp with
  | some lp => lpAt lp (T.kb id) id sl h
  | none => none
def aseq (r : Option (AExit × Env × List AObj)) (k : Env → List AObj → Option (AExit × Env × List AObj)) : Option (AExit × Env × List AObj) := match r with
  | some (.normal, sl', h') => k sl' h'
  | some r => some r
  | none => none
def ablock (id : Nat) (r : Option (AExit × Env × List AObj)) : Option (AExit × Env × List AObj) := match r with
  | some (.exit j, sl', h') => if j = id then some (.normal, sl', h') else some (.exit j, sl', h')
  | some r => some r
  | none => none
def acond (c : Option AV) (x y : Env → List AObj → Option (AExit × Env × List AObj)) (sl : Env) (h : List AObj) : Option (AExit × Env × List AObj) := match c with
  | some (.pv (.lit (.bool true))) => x sl h
  | some (.pv (.lit (.bool false))) => y sl h
  | _ => none
def acode (P : Program) (call : Nat → List AV → List AObj → Option (AV × List AObj)) (okf : Nat → Bool) (tab : List SF) (lf n : Nat) (T : FT) : Code → Env → List AObj → Option (AExit × Env × List AObj)
  | .skip, sl, h => some (.normal, sl, h)
  | .label _, sl, h => some (.normal, sl, h)
  | .region id ops d, sl, h => match d with
    | false => aregT P call okf tab n T.rs ops ops.toList sl h
    | true => aregD P call okf tab n T.rs ops (T.sd id) (T.sx id) sl h
  | .seq x y, sl, h => aseq (acode P call okf tab lf n T x sl h) (acode P call okf tab lf n T y)
  | .cond c x y, sl, h => acond (aev sl c) (acode P call okf tab lf n T x) (acode P call okf tab lf n T y) sl h
  | .block id c, sl, h => match lpGo T id sl h with
    | some r => some r
    | none => ablock id (acode P call okf tab lf n T c sl h)
  | .loop c, sl, h => aloop (acode P call okf tab lf n T c) T.keep lf sl h
  | .scope c, sl, h => acode P call okf tab lf n T c sl h
  | .exit id, sl, h => some (.exit id, sl, h)
  | .ret, sl, h => some (.ret, sl, h)
  | _, _, _ => none
/-- Are the orders right? -/
def tabOk (sd : Nat → List (Nat × Bool)) (sx : Nat → Option (Sch × List Nat)) : Code → Bool
  | .region id ops true => schedD ops (sd id) (sx id)
  | .seq x y => tabOk sd sx x && tabOk sd sx y
  | .cond _ x y => tabOk sd sx x && tabOk sd sx y
  | .block _ c => tabOk sd sx c
  | .loop c => tabOk sd sx c
  | .scope c => tabOk sd sx c
  | _ => true

/-- What stands behind a piece of code. -/
def Post (K : Kn) (n : Nat) (h : List AObj) (w : World) (a : Act) (ex : AExit) (sl' : Env) (h' : List AObj) : Exit → Act → World → Prop := fun e a' w' =>
  ∃ tm, OutIs n ex e a' tm ∧ ∃ K', EnvOk K' n sl' tm ∧ a'.defers = a.defers ∧ Step K h w K' h' w'
def CodeOk (R : Nat → PV) (P : Program) (n : Nat) (c : Code) (sl : Env) (h : List AObj) (ex : AExit) (sl' : Env) (h' : List AObj) : Prop :=
  ∀ (K : Kn) (w : World) (a : Act), K.R = R → WR K h w → EnvOk K n sl a.tmps → c.wp P (Post K n h w a ex sl' h') a w

/-- The blocks of a number. -/
def subs (id : Nat) : Code → List Code
  | .seq x y => subs id x ++ subs id y
  | .cond _ x y => subs id x ++ subs id y
  | .block j c => (if j = id then [c] else []) ++ subs id c
  | .loop c => subs id c
  | .scope c => subs id c
  | _ => []
def LpOk (R : Nat → PV) (P : Program) (n : Nat) (T : FT) (c : Code) : Prop :=
  ∀ lp, T.lp = some lp → ∀ id c', c' ∈ subs id c → ∀ sl h ex sl' h', lp id sl h = some (ex, sl', h') → CodeOk R P n (.block id c') sl h ex sl' h'
section
variable {P : Program} {call : Nat → List AV → List AObj → Option (AV × List AObj)} {okf : Nat → Bool} {tab : List SF} {R : Nat → PV} {lf n : Nat} {T : FT}

theorem Post.after {K K1 : Kn} {h h1 : List AObj} {w w1 : World} {a a1 : Act} (hd : a1.defers = a.defers) (hst : Step K h w K1 h1 w1) {ex : AExit} {sl' : Env} {h' : List AObj} {e : Exit} {a' : Act} {w' : World}
    (hp : Post K1 n h1 w1 a1 ex sl' h' e a' w') : Post K n h w a ex sl' h' e a' w' := by
  obtain ⟨tm, he, K', q1, q2, q3⟩ := hp
  exact ⟨tm, he, K', q1, q2.trans hd, hst.trans q3⟩
theorem rounds_mono {c : Code} {Q Q' : Exit → Act → World → Prop} (hq : ∀ e a w, Q e a w → Q' e a w) : ∀ (n : Nat) (a : Act) (w : World), Code.rounds P c Q n a w → Code.rounds P c Q' n a w
  | 0, _, _, h => h
  | n + 1, a, w, h => by
    rw [rounds_succ] at h ⊢
    refine wp_mono h fun e a' w' hp => ?_
    cases e <;> first | exact rounds_mono hq n a' w' hp | exact hq _ _ _ hp
theorem aloop_sound {c : Code} {body : Env → List AObj → Option (AExit × Env × List AObj)} {ks : List Nat} (hb : ∀ sl h ex sl' h', body sl h = some (ex, sl', h') → CodeOk R P n c sl h ex sl' h') :
    ∀ (m : Nat) (sl : Env) (h : List AObj) (ex : AExit) (sl' : Env) (h' : List AObj), aloop body ks m sl h = some (ex, sl', h') → ∀ (K : Kn) (w : World) (a : Act), K.R = R → WR K h w → EnvOk K n sl a.tmps →
      Code.rounds P c (Post K n h w a ex sl' h') m a w
  | 0, sl, h, ex, sl', h', he, _, _, _, _, _, _ => by cases he
  | m + 1, sl, h, ex, sl', h', he, K, w, a, hR, W, hs => by
    rw [aloop] at he
    rw [rounds_succ]
    split at he
    · rename_i sl1 h1 hb1
      refine wp_mono (hb _ h _ _ _ hb1 K w a hR W (hs.keep ks)) fun e a1 w1 hp => ?_
      obtain ⟨tm, ⟨rfl, rfl⟩, K1, q1, q2, q3⟩ := hp
      have ih := aloop_sound hb m sl1 h1 ex sl' h' he K1 w1 a1 (q3.ext.R.trans hR) q3.wr q1
      exact rounds_mono (fun e a' w' hp => Post.after q2 q3 hp) m a1 w1 ih
    · rename_i r hne hb1
      obtain ⟨ex1, sl1, h1⟩ := r
      cases he
      refine wp_mono (hb _ h _ _ _ hb1 K w a hR W (hs.keep ks)) fun e a1 w1 hp => ?_
      have hp' := hp
      obtain ⟨tm, ho, _⟩ := hp'
      cases ex with
      | normal => exact (hne sl' h' rfl).elim
      | exit id => obtain ⟨rfl, _⟩ := ho; exact hp
      | ret => obtain ⟨rfl, _⟩ := ho; exact hp
      | pan => obtain ⟨_, u, rfl, _⟩ := ho; exact hp
    · cases he
theorem LpOk.sub {c c' : Code} (h : LpOk R P n T c) (hs : ∀ id, subs id c' ⊆ subs id c) : LpOk R P n T c' := fun lp hlp id d hd => h lp hlp id d (hs id hd)
theorem acode_sound (hcall : CallsOk R P call) (htab : TabOk R P tab) (hok : ∀ f, okf f = true → callable P f = true) (hm : P.follows .mixedOrders = true) : ∀ (c : Code) (_ : LpOk R P n T c) (_ : tabOk T.sd T.sx c = true) (sl : Env) (h : List AObj) (ex : AExit) (sl' : Env) (h' : List AObj),
    acode P call okf tab lf n T c sl h = some (ex, sl', h') → CodeOk R P n c sl h ex sl' h'
  | .skip, hl, _, sl, h, ex, sl', h', he, K, w, a, hR, W, hs => by
    rw [acode] at he; cases he
    exact wp_skip ⟨_, ⟨rfl, rfl⟩, K, hs, rfl, Step.refl W⟩
  | .label l, hl, _, sl, h, ex, sl', h', he, K, w, a, hR, W, hs => by
    rw [acode] at he; cases he
    exact wp_label ⟨_, ⟨rfl, rfl⟩, K, hs, rfl, Step.refl W⟩
  | .region id ops false, hl, _, sl, h, ex, sl', h', he, K, w, a, hR, W, hs => by
    rw [acode] at he
    exact wp_region_list (aregT_sound hcall htab hok _ _ _ _ _ _ he K w a hR W hs fun e K' a' w' tm q0 q1 q2 q3 => ⟨tm, q0, K', q1, q2, q3⟩)
  | .region id ops true, hl, ht, sl, h, ex, sl', h', he, K, w, a, hR, W, hs => by
    rw [acode] at he
    rw [tabOk] at ht
    exact areg_drawD hcall htab hok hm ht he hR W hs
  | .seq x y, hl, ht, sl, h, ex, sl', h', he, K, w, a, hR, W, hs => by
    rw [acode] at he
    rw [tabOk, Bool.and_eq_true] at ht
    unfold aseq at he
    split at he
    · rename_i sl1 h1 hx
      refine wp_seq (wp_mono (acode_sound hcall htab hok hm x (hl.sub fun id => by simp only [subs]; exact List.subset_append_left ..) ht.1 sl h _ _ _ hx K w a hR W hs) fun e a1 w1 hp => ?_)
      obtain ⟨tm, ⟨rfl, rfl⟩, K1, q1, q2, q3⟩ := hp
      exact wp_mono (acode_sound hcall htab hok hm y (hl.sub fun id => by simp only [subs]; exact List.subset_append_right ..) ht.2 sl1 h1 _ _ _ he K1 w1 a1 (q3.ext.R.trans hR) q3.wr q1) fun e a' w' hp => Post.after q2 q3 hp
    · rename_i r hne hx
      obtain ⟨ex1, sl1, h1⟩ := r
      cases he
      refine wp_seq (wp_mono (acode_sound hcall htab hok hm x (hl.sub fun id => by simp only [subs]; exact List.subset_append_left ..) ht.1 sl h _ _ _ hx K w a hR W hs) fun e a1 w1 hp => ?_)
      have hp' := hp
      obtain ⟨tm, ho, _⟩ := hp'
      cases ex with
      | normal => exact (hne sl' h' rfl).elim
      | exit id => obtain ⟨rfl, _⟩ := ho; exact hp
      | ret => obtain ⟨rfl, _⟩ := ho; exact hp
      | pan => obtain ⟨_, u, rfl, _⟩ := ho; exact hp
    · cases he
  | .cond c x y, hl, ht, sl, h, ex, sl', h', he, K, w, a, hR, W, hs => by
    rw [acode] at he
    rw [tabOk, Bool.and_eq_true] at ht
    unfold acond at he
    split at he
    · rename_i hc
      exact wp_cond (t := true) (val_eq (aev_sound hs hc) rfl) (acode_sound hcall htab hok hm x (hl.sub fun id => by simp only [subs]; exact List.subset_append_left ..) ht.1 sl h _ _ _ he K w a hR W hs)
    · rename_i hc
      exact wp_cond (t := false) (val_eq (aev_sound hs hc) rfl) (acode_sound hcall htab hok hm y (hl.sub fun id => by simp only [subs]; exact List.subset_append_right ..) ht.2 sl h _ _ _ he K w a hR W hs)
    · cases he
  | .block id c, hl, ht, sl, h, ex, sl', h', he, K, w, a, hR, W, hs => by
    rw [acode] at he
    rw [tabOk] at ht
    have hlc := hl.sub (c' := c) fun id' => by simp only [subs]; exact List.subset_append_right ..
    split at he
    · rename_i r hr
      cases he
      unfold lpGo at hr
      split at hr
      · rename_i lp hlp
        unfold lpAt at hr
        generalize reach h 1000 ((keepE (T.kb id) sl).flatMap fun p => refs p.2) [] = ids at hr
        unfold lpIds at hr
        split at hr
        · rename_i hn
          split at hr
          · rename_i hs0 hsub
            split at hr
            · rename_i ex1 e1 hs1 hlk
              split at hr
              · rename_i h1 hmg
                cases hr
                refine wp_mono (hl lp hlp id c (by simp [subs]) _ _ _ _ _ hlk (K.sub ids) w a hR (W.sub hn hsub) (hs.comp (Ren.sub K ids) _)) fun e a1 w1 hp => ?_
                obtain ⟨tm, q0, K1, q1, q2, q3⟩ := hp
                obtain ⟨m1, m2, _⟩ := merge_sound W hn hsub q3 hmg
                exact ⟨tm, q0, _, q1.comp m2 _, q2, m1⟩
              · cases hr
            · cases hr
          · cases hr
        · cases hr
      · cases hr
    unfold ablock at he
    split at he
    · rename_i j sl1 h1 hc
      refine wp_block (wp_mono (acode_sound hcall htab hok hm c hlc ht sl h _ _ _ hc K w a hR W hs) fun e a1 w1 hp => ?_)
      obtain ⟨tm, ⟨rfl, rfl⟩, K1, q1, q2, q3⟩ := hp
      split at he
      · rename_i e; cases he
        show (if j = id then _ else _)
        rw [if_pos e]
        exact ⟨_, ⟨rfl, rfl⟩, K1, q1, q2, q3⟩
      · rename_i e; cases he
        show (if j = id then _ else _)
        rw [if_neg e]
        exact ⟨_, ⟨rfl, rfl⟩, K1, q1, q2, q3⟩
    · rename_i r hne hc
      obtain ⟨ex1, sl1, h1⟩ := r
      cases he
      refine wp_block (wp_mono (acode_sound hcall htab hok hm c hlc ht sl h _ _ _ hc K w a hR W hs) fun e a1 w1 hp => ?_)
      have hp' := hp
      obtain ⟨tm, ho, _⟩ := hp'
      cases ex with
      | normal => obtain ⟨rfl, _⟩ := ho; exact hp
      | exit id => exact (hne _ sl' h' rfl).elim
      | ret => obtain ⟨rfl, _⟩ := ho; exact hp
      | pan => obtain ⟨_, u, rfl, _⟩ := ho; exact hp
    · cases he
  | .loop c, hl, ht, sl, h, ex, sl', h', he, K, w, a, hR, W, hs => by
    have hlc := hl.sub (c' := c) fun id' => by simp only [subs]; exact List.Subset.refl _
    rw [acode] at he
    rw [tabOk] at ht
    exact wp_loop_rounds lf (aloop_sound (fun sl h ex sl' h' hb => acode_sound hcall htab hok hm c hlc ht sl h ex sl' h' hb) lf sl h ex sl' h' he K w a hR W hs)
  | .scope c, hl, ht, sl, h, ex, sl', h', he, K, w, a, hR, W, hs => by
    have hlc := hl.sub (c' := c) fun id' => by simp only [subs]; exact List.Subset.refl _
    rw [acode] at he
    rw [tabOk] at ht
    refine wp_scope_straight (wp_mono (acode_sound hcall htab hok hm c hlc ht sl h _ _ _ he K w a hR W hs) fun e a1 w1 hp => ?_)
    have hp' := hp
    obtain ⟨tm, ho, _⟩ := hp'
    cases ex with
    | normal => obtain ⟨rfl, _⟩ := ho; exact hp
    | exit id => obtain ⟨rfl, _⟩ := ho; exact hp
    | ret => obtain ⟨rfl, _⟩ := ho; exact hp
    | pan => obtain ⟨_, u, rfl, _⟩ := ho; exact hp
  | .exit id, hl, _, sl, h, ex, sl', h', he, K, w, a, hR, W, hs => by
    rw [acode] at he; cases he
    exact wp_exit ⟨_, ⟨rfl, rfl⟩, K, hs, rfl, Step.refl W⟩
  | .ret, hl, _, sl, h, ex, sl', h', he, K, w, a, hR, W, hs => by
    rw [acode] at he; cases he
    exact wp_ret ⟨_, ⟨rfl, rfl⟩, K, hs, rfl, Step.refl W⟩
  | .rangeFunc .., hl, _, _, _, _, _, _, he, _, _, _, _, _, _ => by simp [acode] at he
  | .goto _, hl, _, _, _, _, _, _, he, _, _, _, _, _, _ => by simp [acode] at he
  | .refuse _, hl, _, _, _, _, _, _, he, _, _, _, _, _, _ => by simp [acode] at he

/-- The results of a function. -/
def resA (P : Program) (sl : Env) (h : List AObj) : List ResultVar → Option (List AV)
  | [] => some []
  | .tmp t :: r => match look sl t, resA P sl h r with
    | some v, some l => some (v :: l)
    | _, _ => none
  | .cell a t :: r => match look sl a, resA P sl h r with
    | some p, some l => match cellsAt h p with
      | some (c, _) => match loadA P t c with
        | some v => some (v :: l)
        | none => none
      | none => none
    | _, _ => none
def oneOr : List AV → AV
  | [v] => v
  | l => .tup l
def resSem (tm : Array Value) : ResultVar → Sem Value
  | .tmp t => pure (tm.getD t Go.undef)
  | .cell a t => do loadVar t (← asAddr (tm.getD a Go.undef))
theorem resA_sound {K : Kn} {h : List AObj} {w : World} {sl : Env} {tm : Array Value} (W : WR K h w) (hs : EnvOk K n sl tm) : ∀ (rs : List ResultVar) (l : List AV), resA P sl h rs = some l →
    ∃ us : List Value, VL K l us ∧ (rs.mapM (resSem tm)).run P w = .ok us w
  | [], l, h => by cases h; exact ⟨[], ⟨rfl, fun i h => by simp at h⟩, by simp⟩
  | .tmp t :: r, l, hr => by
    rw [resA] at hr
    split at hr
    · rename_i v l' hv hl
      cases hr
      obtain ⟨us, hvl, hrun⟩ := resA_sound W hs r l' hl
      refine ⟨tm.getD t Go.undef :: us, (VL.single (hs.2 t v hv)).append hvl, ?_⟩
      simp [List.mapM_cons, resSem, hrun]
    · cases hr
  | .cell a t :: r, l, hr => by
    rw [resA] at hr
    split at hr
    · rename_i p l' hp hl
      split at hr
      · rename_i c d hc
        split at hr
        · rename_i v hv
          cases hr
          obtain ⟨us, hvl, hrun⟩ := resA_sound W hs r l' hl
          obtain ⟨g, off, cs, hx, hvc, hcell⟩ := cellsAt_sound W (hs.2 a p hp) hc
          obtain ⟨u, hvu, hload⟩ := loadA_sound hvc hv g off
          have := hload w (hcell w W.agr (fun _ _ _ _ => rfl))
          refine ⟨u :: us, (VL.single hvu).append hvl, ?_⟩
          simp only [List.mapM_cons, resSem, Sem.run_bind, hx, asAddr, Sem.run_pure, Result.andThen_ok, this, hrun]
        · cases hr
      · cases hr
    · cases hr
end
end Go.Proofs.YtjpjcjnacnlhdaaGreat
