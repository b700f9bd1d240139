/- Deferred calls, and what comes up from a panic. -/
import Derived.Test.YtjpjcjnacnlhdaaGreatAb16
import Derived.Recover
namespace Go.Proofs.YtjpjcjnacnlhdaaGreat
open Go.RowKit

/-- Deferred calls: functions with what they capture. -/
def DL (K : Kn) : List AV → List Deferred → Prop
  | [], [] => True
  | a :: l, d :: r => (∃ g cs us, a = .fn g cs ∧ VL K cs us ∧ d = { target := .fn (.func g) us.toArray, args := #[] }) ∧ DL K l r
  | _, _ => False
theorem DL.mono {K K' : Kn} (x : Ext K K') : ∀ {l : List AV} {r : List Deferred}, DL K l r → DL K' l r
  | [], [], _ => trivial
  | _ :: _, _ :: _, ⟨⟨g, cs, us, h1, h2, h3⟩, h⟩ => ⟨⟨g, cs, us, h1, h2.mono x, h3⟩, h.mono x⟩
  | [], _ :: _, h => h.elim
  | _ :: _, [], h => h.elim
def deferA (ρ : Operand → Option AV) : Op → Option AV
  | .defer ⟨.value f, args, _⟩ => match args.toList with
    | [] => match ρ f with
      | some (.fn g l) => some (.fn g l)
      | _ => none
    | _ => none
  | _ => none
section
variable {P : Program} {call : Nat → List AV → List AObj → Option (AV × List AObj)} {okf : Nat → Bool} {tab : List SF} {R : Nat → PV} {lf n : Nat} {T : FT}

def aregTD (P : Program) (call : Nat → List AV → List AObj → Option (AV × List AObj)) (okf : Nat → Bool) (tab : List SF) (n : Nat) (rs : List Nat) (ops : Array Oper) : List Oper → Env → List AObj → List AV → Option (AExit × Env × List AObj × List AV)
  | [], sl, h, ds => some (.normal, sl, h, ds)
  | o :: rest, sl, h, ds => match wantA ops sl o with
    | some true => match deferA (aev sl) o.op with
      | some d => aregTD P call okf tab n rs ops rest (putA n sl o.dst (.tup [])) h (d :: ds)
      | none => match actA P call okf tab o sl h with
        | some (v, h', _) => match panOf v with
          | none => aregTD P call okf tab n rs ops rest (putA n sl o.dst v) h' ds
          | some x => some (.pan, panE n rs sl x, h', ds)
        | none => none
    | some false => aregTD P call okf tab n rs ops rest (putA n sl o.dst (.tup [])) h ds
    | none => none
def PostD (K : Kn) (n : Nat) (h : List AObj) (w : World) (ex : AExit) (sl' : Env) (h' : List AObj) (ds : List AV) : Exit → Act → World → Prop := fun e a' w' =>
  ∃ tm, OutIs n ex e a' tm ∧ ∃ K', EnvOk K' n sl' tm ∧ DL K' ds a'.defers ∧ Step K h w K' h' w'
theorem aregTD_sound (hcall : CallsOk R P call) (htab : TabOk R P tab) (hok : ∀ f, okf f = true → callable P f = true) {rs : List Nat} {ops : Array Oper} {Q : Exit → Act → World → Prop} : ∀ (l : List Oper) (sl : Env) (h : List AObj) (ds : List AV) (ex : AExit) (sl' : Env) (h' : List AObj) (ds' : List AV), aregTD P call okf tab n rs ops l sl h ds = some (ex, sl', h', ds') →
    ∀ (K : Kn) (w : World) (a : Act), K.R = R → WR K h w → EnvOk K n sl a.tmps → DL K ds a.defers → (∀ e K' a' w' tm, OutIs n ex e a' tm → EnvOk K' n sl' tm → DL K' ds' a'.defers → Step K h w K' h' w' → Q e a' w') → wpList P ops Q l a w
  | [], sl, h, ds, ex, sl', h', ds', he, K, w, a, hR, H, hs, hd, hq => by
    cases he
    exact hq .normal K a w _ ⟨rfl, rfl⟩ hs hd (Step.refl H)
  | o :: rest, sl, h, ds, ex, sl', h', ds', he, K, w, a, hR, H, hs, hd, hq => by
    rw [aregTD] at he
    refine wpList_step fun Kp hK => ?_
    split at he
    · rename_i hw
      rw [wantA_sound hs hw]
      simp only [if_true]
      split at he
      · rename_i d hdf
        unfold deferA at hdf
        split at hdf
        · rename_i f args ts ho
          split at hdf
          · rename_i ha
            split at hdf
            · rename_i g l hf
              cases hdf
              have hfv := aev_sound hs hf
              have ea : args = #[] := by rw [← Array.toArray_toList (xs := args), ha]
              subst ea
              generalize hfe : a.eval f = fv at hfv
              cases hfv with
              | fn _ _ cs hl hh =>
                have hrun : (execOp a.eval o).run P w = .ok (.defer { target := .fn (.func g) cs.toArray, args := #[] }) w := by
                  simp [execOp, ho, resolve, Deferred.ofValue, hfe]
                unfold Oper.wp
                rw [hrun]
                refine hK _ _ ?_
                have h0 : EnvOk K n sl ({ a with defers := { target := .fn (.func g) cs.toArray, args := #[] } :: a.defers } : Act).tmps := hs
                obtain ⟨p1, p2⟩ := putA_sound h0 (VR.undef K) o.dst
                refine aregTD_sound hcall htab hok rest _ h (_ :: ds) ex sl' h' ds' he K w _ hR H p1 ?_ hq
                rw [p2]
                exact ⟨⟨g, l, cs, rfl, ⟨hl, hh⟩, rfl⟩, hd⟩
            · cases hdf
          · cases hdf
        · cases hdf
      · split at he
        · rename_i v h1 t ha
          refine actA_sound hcall htab hok ha hR H hs (fun K' w' u hpn hv hst _ => hK _ _ ?_) (fun x K' w' u hpx hv hst => ?_)
          · rw [hpn] at he
            obtain ⟨p1, p2⟩ := putA_sound (hs.mono hst.ext) hv o.dst
            exact aregTD_sound hcall htab hok rest _ h1 ds ex sl' h' ds' he K' w' _ (hst.ext.R.trans hR) hst.wr p1 (by rw [p2]; exact hd.mono hst.ext) (fun e K2 a2 w2 tm q0 q1 q2 q3 => hq e K2 a2 w2 tm q0 q1 q2 (hst.trans q3))
          · rw [hpx] at he
            cases he
            exact hq _ K' a w' _ ⟨hs.1, u, rfl, rfl⟩ (panE_sound (hs.mono hst.ext) hv) (hd.mono hst.ext) hst
        · cases he
    · rename_i hw
      rw [wantA_sound hs hw]
      simp only [Bool.false_eq_true, if_false]
      refine hK _ _ ?_
      obtain ⟨p1, p2⟩ := putA_sound hs (VR.undef K) o.dst
      exact aregTD_sound hcall htab hok rest _ h ds ex sl' h' ds' he K w _ hR H p1 (by rw [p2]; exact hd) hq
    · cases he
/-- Code with deferred calls ahead. -/
def acodeD (P : Program) (call : Nat → List AV → List AObj → Option (AV × List AObj)) (okf : Nat → Bool) (tab : List SF) (lf n : Nat) (T : FT) : Code → Env → List AObj → List AV → Option (AExit × Env × List AObj × List AV)
  | .region _ ops false, sl, h, ds => aregTD P call okf tab n T.rs ops ops.toList sl h ds
  | .seq x y, sl, h, ds => match acodeD P call okf tab lf n T x sl h ds with
    | some (.normal, sl', h', ds') => acodeD P call okf tab lf n T y sl' h' ds'
    | r => r
  | c, sl, h, ds => match acode P call okf tab lf n T c sl h with
    | some (ex, sl', h') => some (ex, sl', h', ds)
    | none => none
theorem acodeD_else (hcall : CallsOk R P call) (htab : TabOk R P tab) (hok : ∀ f, okf f = true → callable P f = true) (hm : P.follows .mixedOrders = true) (c : Code) (hl : LpOk R P n T c) (ht : tabOk T.sd T.sx c = true) (sl : Env) (h : List AObj) (ds : List AV) (ex : AExit) (sl' : Env) (h' : List AObj) (ds' : List AV)
    (he : (match acode P call okf tab lf n T c sl h with
    | some (ex, sl', h') => some (ex, sl', h', ds)
    | none => none) = some (ex, sl', h', ds')) (K : Kn) (w : World) (a : Act) (hR : K.R = R) (W : WR K h w) (hs : EnvOk K n sl a.tmps) (hd : DL K ds a.defers) : c.wp P (PostD K n h w ex sl' h' ds') a w := by
  split at he
  · rename_i ex1 sl1 h1 ha
    cases he
    refine wp_mono (acode_sound hcall htab hok hm c hl ht _ _ _ _ _ ha K w a hR W hs) fun e a' w' hp => ?_
    obtain ⟨tm, q0, K', q1, q2, q3⟩ := hp
    exact ⟨tm, q0, K', q1, by rw [q2]; exact hd.mono q3.ext, q3⟩
  · cases he
theorem acodeD_sound (hcall : CallsOk R P call) (htab : TabOk R P tab) (hok : ∀ f, okf f = true → callable P f = true) (hm : P.follows .mixedOrders = true) : ∀ (c : Code) (_ : LpOk R P n T c) (_ : tabOk T.sd T.sx c = true) (sl : Env) (h : List AObj) (ds : List AV) (ex : AExit) (sl' : Env) (h' : List AObj) (ds' : List AV),
    acodeD P call okf tab lf n T c sl h ds = some (ex, sl', h', ds') → ∀ (K : Kn) (w : World) (a : Act), K.R = R → WR K h w → EnvOk K n sl a.tmps → DL K ds a.defers → c.wp P (PostD K n h w ex sl' h' ds') a w
  | .region id ops false, hl, ht, sl, h, ds, ex, sl', h', ds', he, K, w, a, hR, W, hs, hd => by
    rw [acodeD] at he
    exact wp_region_list (aregTD_sound hcall htab hok _ _ _ _ _ _ _ _ he K w a hR W hs hd fun e K' a' w' tm q0 q1 q2 q3 => ⟨tm, q0, K', q1, q2, q3⟩)
  | .seq x y, hl, ht, sl, h, ds, ex, sl', h', ds', he, K, w, a, hR, W, hs, hd => by
    rw [acodeD] at he
    rw [tabOk, Bool.and_eq_true] at ht
    split at he
    · rename_i sl1 h1 ds1 hx
      refine wp_seq (wp_mono (acodeD_sound hcall htab hok hm x (hl.sub fun id => by simp only [subs]; exact List.subset_append_left ..) ht.1 sl h ds _ _ _ _ hx K w a hR W hs hd) fun e a1 w1 hp => ?_)
      obtain ⟨tm, ⟨rfl, rfl⟩, K1, q1, q2, q3⟩ := hp
      refine wp_mono (acodeD_sound hcall htab hok hm y (hl.sub fun id => by simp only [subs]; exact List.subset_append_right ..) ht.2 sl1 h1 ds1 _ _ _ _ he K1 w1 a1 (q3.ext.R.trans hR) q3.wr q1 q2) fun e a' w' hp => ?_
      obtain ⟨tm', r0, K2, r1, r2, r3⟩ := hp
      exact ⟨tm', r0, K2, r1, r2, q3.trans r3⟩
    · rename_i r hne
      refine wp_seq (wp_mono (acodeD_sound hcall htab hok hm x (hl.sub fun id => by simp only [subs]; exact List.subset_append_left ..) ht.1 sl h ds _ _ _ _ he K w a hR W hs hd) fun e a1 w1 hp => ?_)
      have hp' := hp
      obtain ⟨tm, ho, _⟩ := hp'
      cases ex with
      | normal => exact (hne sl' h' ds' he).elim
      | exit id => obtain ⟨rfl, _⟩ := ho; exact hp
      | ret => obtain ⟨rfl, _⟩ := ho; exact hp
      | pan => obtain ⟨_, u, rfl, _⟩ := ho; exact hp
  | .region id ops true, hl, ht, sl, h, ds, ex, sl', h', ds', he, K, w, a, hR, W, hs, hd => acodeD_else (lf := lf) hcall htab hok hm _ hl ht sl h ds ex sl' h' ds' he K w a hR W hs hd
  | .skip, hl, ht, sl, h, ds, ex, sl', h', ds', he, K, w, a, hR, W, hs, hd => acodeD_else (lf := lf) hcall htab hok hm _ hl ht sl h ds ex sl' h' ds' he K w a hR W hs hd
  | .label l, hl, ht, sl, h, ds, ex, sl', h', ds', he, K, w, a, hR, W, hs, hd => acodeD_else (lf := lf) hcall htab hok hm _ hl ht sl h ds ex sl' h' ds' he K w a hR W hs hd
  | .cond c x y, hl, ht, sl, h, ds, ex, sl', h', ds', he, K, w, a, hR, W, hs, hd => acodeD_else (lf := lf) hcall htab hok hm _ hl ht sl h ds ex sl' h' ds' he K w a hR W hs hd
  | .block id c, hl, ht, sl, h, ds, ex, sl', h', ds', he, K, w, a, hR, W, hs, hd => acodeD_else (lf := lf) hcall htab hok hm _ hl ht sl h ds ex sl' h' ds' he K w a hR W hs hd
  | .loop c, hl, ht, sl, h, ds, ex, sl', h', ds', he, K, w, a, hR, W, hs, hd => acodeD_else (lf := lf) hcall htab hok hm _ hl ht sl h ds ex sl' h' ds' he K w a hR W hs hd
  | .scope c, hl, ht, sl, h, ds, ex, sl', h', ds', he, K, w, a, hR, W, hs, hd => acodeD_else (lf := lf) hcall htab hok hm _ hl ht sl h ds ex sl' h' ds' he K w a hR W hs hd
  | .exit id, hl, ht, sl, h, ds, ex, sl', h', ds', he, K, w, a, hR, W, hs, hd => acodeD_else (lf := lf) hcall htab hok hm _ hl ht sl h ds ex sl' h' ds' he K w a hR W hs hd
  | .ret, hl, ht, sl, h, ds, ex, sl', h', ds', he, K, w, a, hR, W, hs, hd => acodeD_else (lf := lf) hcall htab hok hm _ hl ht sl h ds ex sl' h' ds' he K w a hR W hs hd
  | .rangeFunc .., hl, ht, sl, h, ds, ex, sl', h', ds', he, K, w, a, hR, W, hs, hd => acodeD_else (lf := lf) hcall htab hok hm _ hl ht sl h ds ex sl' h' ds' he K w a hR W hs hd
  | .goto _, hl, ht, sl, h, ds, ex, sl', h', ds', he, K, w, a, hR, W, hs, hd => acodeD_else (lf := lf) hcall htab hok hm _ hl ht sl h ds ex sl' h' ds' he K w a hR W hs hd
  | .refuse _, hl, ht, sl, h, ds, ex, sl', h', ds', he, K, w, a, hR, W, hs, hd => acodeD_else (lf := lf) hcall htab hok hm _ hl ht sl h ds ex sl' h' ds' he K w a hR W hs hd

/-- How a function is being left: it returns; it panics; the panic was taken up. -/
inductive DSt where
  | ret
  | pan (x : AV)
  | taken
def DStOk (K : Kn) : DSt → FrameMode → Prop
  | .ret, m => m = .returning
  | .pan x, m => ∃ u, m = .panicking [{ v := u, recovered := false }] ∧ VR K x u
  | .taken, m => ∃ u, m = .panicking [{ v := u, recovered := true }]
theorem DStOk.mono {K K' : Kn} (x : Ext K K') {st : DSt} {m : FrameMode} (h : DStOk K st m) : DStOk K' st m := by
  cases st with
  | ret => exact h
  | pan y => obtain ⟨u, h1, h2⟩ := h; exact ⟨u, h1, h2.mono x⟩
  | taken => exact h
def isRecover : Op → Bool
  | .call ⟨.builtin .recover, args, _⟩ => args.isEmpty
  | _ => false
def takeUp : DSt → AV × DSt
  | .pan x => (x, .taken)
  | st => (.pv (.lit .nilIface), st)
/-- A region of a deferred function, in the order of the text. -/
def aregTS (P : Program) (call : Nat → List AV → List AObj → Option (AV × List AObj)) (okf : Nat → Bool) (tab : List SF) (n : Nat) (ops : Array Oper) : List Nat → Env → List AObj → DSt → Option (Env × List AObj × DSt)
  | [], sl, h, st => some (sl, h, st)
  | i :: rest, sl, h, st => match ops[i]? with
    | none => none
    | some o => match wantA ops sl o with
      | some true => match isRecover o.op with
        | true => aregTS P call okf tab n ops rest (putA n sl o.dst (takeUp st).1) h (takeUp st).2
        | false => match actA P call okf tab o sl h with
          | some (v, h', _) => match panOf v with
            | none => aregTS P call okf tab n ops rest (putA n sl o.dst v) h' st
            | some _ => none
          | none => none
      | some false => aregTS P call okf tab n ops rest (putA n sl o.dst (.tup [])) h st
      | none => none
def PostS (K : Kn) (n : Nat) (h : List AObj) (w : World) (d0 : List Deferred) (c0 : Frame) (cs : List Frame) (ex : AExit) (sl' : Env) (h' : List AObj) (st : DSt) : Exit → Act → List Frame → World → Prop := fun e a' cs' w' =>
  e = ex.out ∧ ex ≠ .pan ∧ ∃ K' m, EnvOk K' n sl' a'.tmps ∧ a'.defers = d0 ∧ cs' = { c0 with mode := m } :: cs ∧ DStOk K' st m ∧ Step K h w K' h' w'
theorem takeUp_sound {K : Kn} {st : DSt} {m : FrameMode} (h : DStOk K st m) (c0 : Frame) (cs : List Frame) : ∃ v m', VR K (takeUp st).1 v ∧ DStOk K (takeUp st).2 m' ∧
    (recoverD ({ c0 with mode := m } :: cs) = some (v, { c0 with mode := m' } :: cs) ∨ (recoverD ({ c0 with mode := m } :: cs) = none ∧ v = .nilIface ∧ m' = m)) := by
  cases st with
  | ret => cases h; exact ⟨.nilIface, .returning, .pv (.lit _ rfl), rfl, .inr ⟨rfl, rfl, rfl⟩⟩
  | pan x =>
    obtain ⟨u, rfl, hu⟩ := h
    exact ⟨u, _, hu, ⟨u, rfl⟩, .inl rfl⟩
  | taken =>
    obtain ⟨u, rfl⟩ := h
    exact ⟨.nilIface, _, .pv (.lit _ rfl), ⟨u, rfl⟩, .inr ⟨rfl, rfl, rfl⟩⟩
theorem aregTS_sound (hcall : CallsOk R P call) (htab : TabOk R P tab) (hok : ∀ f, okf f = true → callable P f = true) {ops : Array Oper} {c0 : Frame} {cs : List Frame} {Q : Exit → Act → List Frame → World → Prop} : ∀ (l : List Nat) (sl : Env) (h : List AObj) (st : DSt) (sl' : Env) (h' : List AObj) (st' : DSt), aregTS P call okf tab n ops l sl h st = some (sl', h', st') →
    ∀ (K : Kn) (w : World) (a : Act) (m : FrameMode), K.R = R → WR K h w → EnvOk K n sl a.tmps → DStOk K st m → (∀ K' a' m' w', EnvOk K' n sl' a'.tmps → a'.defers = a.defers → DStOk K' st' m' → Step K h w K' h' w' → Q .normal a' ({ c0 with mode := m' } :: cs) w') → wpOpsS P ops Q l a ({ c0 with mode := m } :: cs) w
  | [], sl, h, st, sl', h', st', he, K, w, a, m, hR, H, hs, hd, hq => by
    cases he
    exact hq K a m w hs rfl hd (Step.refl H)
  | i :: rest, sl, h, st, sl', h', st', he, K, w, a, m, hR, H, hs, hd, hq => by
    rw [aregTS] at he
    simp only [wpOpsS]
    split at he
    · cases he
    · rename_i o ho
      rw [ho]
      simp only
      split at he
      · rename_i hw
        rw [wantA_sound hs hw]
        simp only [if_true]
        split at he
        · rename_i hrec
          have hrun : (execOp a.eval o).run P w = .ok .recover w := by
            unfold isRecover at hrec
            split at hrec
            · rename_i args ts hop
              have ea : args = #[] := by simpa using hrec
              subst ea
              simp [execOp, hop, resolve, invoke, builtin]
            · cases hrec
          rw [hrun]
          simp only
          obtain ⟨v, m', hv, hd', hrec'⟩ := takeUp_sound hd c0 cs
          obtain ⟨p1, p2⟩ := putA_sound hs hv o.dst
          have key := aregTS_sound hcall htab hok (c0 := c0) (cs := cs) (Q := Q) rest _ h _ sl' h' st' he K w (a.put o.dst v) m' hR H p1 hd' (fun K' a' m' w' q1 q2 q3 q4 => hq K' a' m' w' q1 (q2.trans p2) q3 q4)
          rcases hrec' with hrec' | ⟨hrec', rfl, rfl⟩
          · rw [hrec']; exact key
          · rw [hrec']; exact key
        · split at he
          · rename_i v h1 t ha
            split at he
            · rename_i hpn
              have hwp := actA_sound (Q := fun e a' w' => Q e a' ({ c0 with mode := m } :: cs) w') (next := fun a' w' => wpOpsS P ops Q rest a' ({ c0 with mode := m } :: cs) w') hcall htab hok ha hR H hs (fun K' w' u _ hv hst _ => by
                obtain ⟨p1, p2⟩ := putA_sound (hs.mono hst.ext) hv o.dst
                exact aregTS_sound hcall htab hok rest _ h1 st sl' h' st' he K' w' _ m (hst.ext.R.trans hR) hst.wr p1 (hd.mono hst.ext) (fun K2 a2 m2 w2 q1 q2 q3 q4 => hq K2 a2 m2 w2 q1 (q2.trans p2) q3 (hst.trans q4))) (fun x K' w' u hpx _ _ => by rw [hpn] at hpx; cases hpx)
              unfold Oper.wp at hwp
              generalize (execOp a.eval o).run P w = r at hwp ⊢
              split
              · exact hwp.elim
              · exact hwp
            · cases he
          · cases he
      · rename_i hw
        rw [wantA_sound hs hw]
        simp only [Bool.false_eq_true, if_false]
        obtain ⟨p1, p2⟩ := putA_sound hs (VR.undef K) o.dst
        exact aregTS_sound hcall htab hok rest _ h st sl' h' st' he K w _ m hR H p1 hd (fun K' a' m' w' q1 q2 q3 q4 => hq K' a' m' w' q1 (q2.trans p2) q3 q4)
      · cases he
/-- The code of a deferred function. -/
def acodeS (P : Program) (call : Nat → List AV → List AObj → Option (AV × List AObj)) (okf : Nat → Bool) (tab : List SF) (lf n : Nat) (T : FT) : Code → Env → List AObj → DSt → Option (AExit × Env × List AObj × DSt)
  | .region _ ops false, sl, h, st => match aregTS P call okf tab n ops (List.range ops.size) sl h st with
    | some (sl', h', st') => some (.normal, sl', h', st')
    | none => none
  | .seq x y, sl, h, st => match acodeS P call okf tab lf n T x sl h st with
    | some (.normal, sl', h', st') => acodeS P call okf tab lf n T y sl' h' st'
    | r => r
  | .cond c x y, sl, h, st => match aev sl c with
    | some (.pv (.lit (.bool true))) => acodeS P call okf tab lf n T x sl h st
    | some (.pv (.lit (.bool false))) => acodeS P call okf tab lf n T y sl h st
    | _ => none
  | c, sl, h, st => match acode P call okf tab lf n T c sl h with
    | some (.pan, _, _) => none
    | some (ex, sl', h') => some (ex, sl', h', st)
    | none => none
theorem acodeS_else (hcall : CallsOk R P call) (htab : TabOk R P tab) (hok : ∀ f, okf f = true → callable P f = true) (hm : P.follows .mixedOrders = true) {c0 : Frame} {cs : List Frame} (c : Code) (hl : LpOk R P n T c) (ht : tabOk T.sd T.sx c = true) (sl : Env) (h : List AObj) (st : DSt) (ex : AExit) (sl' : Env) (h' : List AObj) (st' : DSt)
    (he : (match acode P call okf tab lf n T c sl h with
    | some (.pan, _, _) => none
    | some (ex, sl', h') => some (ex, sl', h', st)
    | none => none) = some (ex, sl', h', st')) (K : Kn) (w : World) (a : Act) (m : FrameMode) (hR : K.R = R) (W : WR K h w) (hs : EnvOk K n sl a.tmps) (hd : DStOk K st m) : c.wpS P (PostS K n h w a.defers c0 cs ex sl' h' st') a ({ c0 with mode := m } :: cs) w := by
  refine wpS_of_wp ?_
  split at he
  · cases he
  · rename_i ex1 sl1 h1 hne ha
    cases he
    refine wp_mono (acode_sound hcall htab hok hm c hl ht _ _ _ _ _ ha K w a hR W hs) fun e a' w' hp => ?_
    obtain ⟨tm, q0, K', q1, q2, q3⟩ := hp
    have hx : ex ≠ .pan := fun e => by subst e; exact hne rfl
    have hq : e = ex.out ∧ tm = a'.tmps := by
      cases ex with
      | pan => exact absurd rfl hx
      | normal => exact q0
      | exit id => exact q0
      | ret => exact q0
    obtain ⟨rfl, rfl⟩ := hq
    exact ⟨rfl, hx, K', m, q1, q2, rfl, hd.mono q3.ext, q3⟩
  · cases he
theorem PostS.after {K K1 : Kn} {h h1 : List AObj} {w w1 : World} {d0 d1 : List Deferred} {c0 : Frame} {cs : List Frame} {ex : AExit} {sl' : Env} {h' : List AObj} {st : DSt} {e : Exit} {a' : Act} {cs' : List Frame} {w' : World} (hd : d1 = d0) (hst : Step K h w K1 h1 w1) (hp : PostS K1 n h1 w1 d1 c0 cs ex sl' h' st e a' cs' w') : PostS K n h w d0 c0 cs ex sl' h' st e a' cs' w' := by
  obtain ⟨q0, qx, K', m, q1, q2, q3, q4, q5⟩ := hp
  exact ⟨q0, qx, K', m, q1, q2.trans hd, q3, q4, hst.trans q5⟩
theorem wpS_mono {c : Code} {Q Q' : Exit → Act → List Frame → World → Prop} {a : Act} {cs : List Frame} {w : World} (h : c.wpS P Q a cs w) (hq : ∀ e a cs w, Q e a cs w → Q' e a cs w) : c.wpS P Q' a cs w :=
  fun b k hb hr => let ⟨e, a', cs', w', q, r⟩ := h b k hb hr; ⟨e, a', cs', w', hq _ _ _ _ q, r⟩
theorem acodeS_sound (hcall : CallsOk R P call) (htab : TabOk R P tab) (hok : ∀ f, okf f = true → callable P f = true) (hm : P.follows .mixedOrders = true) {c0 : Frame} {cs : List Frame} : ∀ (c : Code) (_ : LpOk R P n T c) (_ : tabOk T.sd T.sx c = true) (sl : Env) (h : List AObj) (st : DSt) (ex : AExit) (sl' : Env) (h' : List AObj) (st' : DSt),
    acodeS P call okf tab lf n T c sl h st = some (ex, sl', h', st') → ∀ (K : Kn) (w : World) (a : Act) (m : FrameMode), K.R = R → WR K h w → EnvOk K n sl a.tmps → DStOk K st m → c.wpS P (PostS K n h w a.defers c0 cs ex sl' h' st') a ({ c0 with mode := m } :: cs) w
  | .region id ops false, hl, ht, sl, h, st, ex, sl', h', st', he, K, w, a, m, hR, W, hs, hd => by
    rw [acodeS] at he
    split at he
    · rename_i sl1 h1 st1 hr
      cases he
      exact wpS_region (aregTS_sound hcall htab hok _ _ _ _ _ _ _ hr K w a m hR W hs hd fun K' a' m' w' q1 q2 q3 q4 => ⟨rfl, (fun e => by cases e), K', m', q1, q2, rfl, q3, q4⟩)
    · cases he
  | .seq x y, hl, ht, sl, h, st, ex, sl', h', st', he, K, w, a, m, hR, W, hs, hd => by
    rw [acodeS] at he
    rw [tabOk, Bool.and_eq_true] at ht
    split at he
    · rename_i sl1 h1 st1 hx
      refine wpS_seq (wpS_mono (acodeS_sound hcall htab hok hm (c0 := c0) (cs := cs) x (hl.sub fun id => by simp only [subs]; exact List.subset_append_left ..) ht.1 sl h st _ _ _ _ hx K w a m hR W hs hd) fun e a1 cs1 w1 hp => ?_)
      obtain ⟨rfl, _, K1, m1, q1, q2, rfl, q4, q5⟩ := hp
      exact wpS_mono (acodeS_sound hcall htab hok hm (c0 := c0) (cs := cs) y (hl.sub fun id => by simp only [subs]; exact List.subset_append_right ..) ht.2 sl1 h1 st1 _ _ _ _ he K1 w1 a1 m1 (q5.ext.R.trans hR) q5.wr q1 q4) fun e a' cs' w' hp => hp.after q2 q5
    · rename_i r hne
      refine wpS_seq (wpS_mono (acodeS_sound hcall htab hok hm (c0 := c0) (cs := cs) x (hl.sub fun id => by simp only [subs]; exact List.subset_append_left ..) ht.1 sl h st _ _ _ _ he K w a m hR W hs hd) fun e a1 cs1 w1 hp => ?_)
      have hp' := hp
      obtain ⟨rfl, hx, _⟩ := hp'
      cases ex with
      | normal => exact (hne sl' h' st' he).elim
      | exit id => exact hp
      | ret => exact hp
      | pan => exact absurd rfl hx
  | .cond c x y, hl, ht, sl, h, st, ex, sl', h', st', he, K, w, a, m, hR, W, hs, hd => by
    rw [acodeS] at he
    rw [tabOk, Bool.and_eq_true] at ht
    split at he
    · rename_i hc
      exact wpS_cond (t := true) (val_eq (aev_sound hs hc) rfl) (acodeS_sound hcall htab hok hm x (hl.sub fun id => by simp only [subs]; exact List.subset_append_left ..) ht.1 sl h st _ _ _ _ he K w a m hR W hs hd)
    · rename_i hc
      exact wpS_cond (t := false) (val_eq (aev_sound hs hc) rfl) (acodeS_sound hcall htab hok hm y (hl.sub fun id => by simp only [subs]; exact List.subset_append_right ..) ht.2 sl h st _ _ _ _ he K w a m hR W hs hd)
    · cases he
  | .region id ops true, hl, ht, sl, h, st, ex, sl', h', st', he, K, w, a, m, hR, W, hs, hd => acodeS_else (lf := lf) hcall htab hok hm _ hl ht sl h st ex sl' h' st' he K w a m hR W hs hd
  | .skip, hl, ht, sl, h, st, ex, sl', h', st', he, K, w, a, m, hR, W, hs, hd => acodeS_else (lf := lf) hcall htab hok hm _ hl ht sl h st ex sl' h' st' he K w a m hR W hs hd
  | .label l, hl, ht, sl, h, st, ex, sl', h', st', he, K, w, a, m, hR, W, hs, hd => acodeS_else (lf := lf) hcall htab hok hm _ hl ht sl h st ex sl' h' st' he K w a m hR W hs hd
  | .block id c, hl, ht, sl, h, st, ex, sl', h', st', he, K, w, a, m, hR, W, hs, hd => acodeS_else (lf := lf) hcall htab hok hm _ hl ht sl h st ex sl' h' st' he K w a m hR W hs hd
  | .loop c, hl, ht, sl, h, st, ex, sl', h', st', he, K, w, a, m, hR, W, hs, hd => acodeS_else (lf := lf) hcall htab hok hm _ hl ht sl h st ex sl' h' st' he K w a m hR W hs hd
  | .scope c, hl, ht, sl, h, st, ex, sl', h', st', he, K, w, a, m, hR, W, hs, hd => acodeS_else (lf := lf) hcall htab hok hm _ hl ht sl h st ex sl' h' st' he K w a m hR W hs hd
  | .exit id, hl, ht, sl, h, st, ex, sl', h', st', he, K, w, a, m, hR, W, hs, hd => acodeS_else (lf := lf) hcall htab hok hm _ hl ht sl h st ex sl' h' st' he K w a m hR W hs hd
  | .ret, hl, ht, sl, h, st, ex, sl', h', st', he, K, w, a, m, hR, W, hs, hd => acodeS_else (lf := lf) hcall htab hok hm _ hl ht sl h st ex sl' h' st' he K w a m hR W hs hd
  | .rangeFunc .., hl, ht, sl, h, st, ex, sl', h', st', he, K, w, a, m, hR, W, hs, hd => acodeS_else (lf := lf) hcall htab hok hm _ hl ht sl h st ex sl' h' st' he K w a m hR W hs hd
  | .goto _, hl, ht, sl, h, st, ex, sl', h', st', he, K, w, a, m, hR, W, hs, hd => acodeS_else (lf := lf) hcall htab hok hm _ hl ht sl h st ex sl' h' st' he K w a m hR W hs hd
  | .refuse _, hl, ht, sl, h, st, ex, sl', h', st', he, K, w, a, m, hR, W, hs, hd => acodeS_else (lf := lf) hcall htab hok hm _ hl ht sl h st ex sl' h' st' he K w a m hR W hs hd
end
end Go.Proofs.YtjpjcjnacnlhdaaGreat
