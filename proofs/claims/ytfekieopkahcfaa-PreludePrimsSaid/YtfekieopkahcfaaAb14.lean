/- One operation of any kind; regions in the order of the text. -/
import Derived.Test.YtfekieopkahcfaaAb13
import Derived.Tactics
namespace Go.Proofs.Ytfekieopkahcfaa
open Go.RowKit

/-- What a call gives, abstractly. -/
def CallOk (P : Program) (f : Nat) (args : List AV) (h : List AObj) (v : AV) (h' : List AObj) : Prop :=
  ∀ (K : Kn) (w : World) (us : List Value), WR K h w → VL K args us → Calls P f us.toArray w fun e w' => ∃ u K', e = .returned u ∧ VR K' v u ∧ Step K h w K' h' w'
def CallsOk (P : Program) (call : Nat → List AV → List AObj → Option (AV × List AObj)) : Prop := ∀ f args h v h', call f args h = some (v, h') → CallOk P f args h v h'
def callable (P : Program) (f : Nat) : Bool := match P.funcs[f]? with
  | some fn => fn.body.isSome && !(fn.name == "runtime.NumGoroutine")
  | none => false
def callee (ρ : Operand → Option AV) : Op → Option (Nat × List AV)
  | .call ⟨.value f, args, _⟩ => match ρ f, opsA ρ args.toList with
    | some (.fn g caps), some vs => some (g, vs ++ caps)
    | _, _ => none
  | _ => none
mutual
def refs : AV → List Nat
  | .pv _ => []
  | .trows t _ => [t]
  | .ptr i _ => [i]
  | .cptr _ => []
  | .agg l => refsL l
  | .tup l => refsL l
  | .fn _ l => refsL l
def refsL : List AV → List Nat
  | [] => []
  | a :: l => refs a ++ refsL l
end
def refsO : AObj → List Nat
  | .box _ cells => refsL cells
  | _ => []
/-- The objects that can be reached. -/
def reach (h : List AObj) : Nat → List Nat → List Nat → List Nat
  | 0, _, done => done
  | _ + 1, [], done => done
  | n + 1, i :: todo, done => if done.elem i then reach h n todo done else match h[i]? with
    | some x => reach h n (refsO x ++ todo) (done ++ [i])
    | none => done
def doCallAt (call : Nat → List AV → List AObj → Option (AV × List AObj)) (f : Nat) (args : List AV) (h : List AObj) (ids : List Nat) : Option (AV × List AObj × List Nat) :=
  if nodupB ids then match subH h ids, renL (fun i => posOf i ids) args with
    | some hs, some args' => match call f args' hs with
      | some (v, hs') => match ren (backF ids h.length) v, mergeH h ids hs' with
        | some v', some h' => some (v', h', ids)
        | _, _ => none
      | none => none
    | _, _ => none
  else none
def doCall (call : Nat → List AV → List AObj → Option (AV × List AObj)) (f : Nat) (args : List AV) (h : List AObj) : Option (AV × List AObj × List Nat) :=
  match refsL args with
  | [] => match call f args [] with
    | some (v, hs') => match ren (backF [] h.length) v, mergeH h [] hs' with
      | some v', some h' => some (v', h', [])
      | _, _ => none
    | none => none
  | r => doCallAt call f args h (reach h 1000 r [])
theorem doCall_spec {call : Nat → List AV → List AObj → Option (AV × List AObj)} {f : Nat} {args : List AV} {h : List AObj} {v : AV} {h' : List AObj} {ids : List Nat} (hd : doCall call f args h = some (v, h', ids))
    (hrefs : refsL args = [] → renL (fun i => posOf i []) args = some args) :
    ∃ hs args' v0 hs', nodupB ids = true ∧ subH h ids = some hs ∧ renL (fun i => posOf i ids) args = some args' ∧ call f args' hs = some (v0, hs') ∧ ren (backF ids h.length) v0 = some v ∧ mergeH h ids hs' = some h' := by
  unfold doCall at hd
  split at hd
  · rename_i hr
    split at hd
    · rename_i v0 hs' hc
      split at hd
      · rename_i v' h'' hv hm
        cases hd
        exact ⟨[], args, v0, hs', rfl, rfl, hrefs hr, hc, hv, hm⟩
      · cases hd
    · cases hd
  · unfold doCallAt at hd
    split at hd
    · rename_i hn
      split at hd
      · rename_i hs args' hs1 hr1
        split at hd
        · rename_i v0 hs' hc
          split at hd
          · rename_i v' h'' hv hm
            cases hd
            exact ⟨hs, args', v0, hs', hn, hs1, hr1, hc, hv, hm⟩
          · cases hd
        · cases hd
      · cases hd
    · cases hd
mutual
theorem ren_none (f : Nat → Option Nat) : ∀ a : AV, refs a = [] → ren f a = some a
  | .pv p, _ => rfl
  | .trows t es, h => by simp [refs] at h
  | .ptr i o, h => by simp [refs] at h
  | .cptr cs, _ => rfl
  | .agg l, h => by rw [refs] at h; rw [ren, renL_none f l h]; rfl
  | .tup l, h => by rw [refs] at h; rw [ren, renL_none f l h]; rfl
  | .fn g l, h => by rw [refs] at h; rw [ren, renL_none f l h]; rfl
theorem renL_none (f : Nat → Option Nat) : ∀ l : List AV, refsL l = [] → renL f l = some l
  | [], _ => rfl
  | a :: l, h => by
    rw [refsL, List.append_eq_nil_iff] at h
    rw [renL, ren_none f a h.1, renL_none f l h.2]
end
/-! The same, each kind of operation apart: so that little is laid open at a step. -/
def qMove (ρ : Operand → Option AV) (x : Operand) : Option (AV × Option Nat) := match ρ x with
  | some v => some (v, none)
  | none => none
def qPick (ρ : Operand → Option AV) (c a b : Operand) : Option (AV × Option Nat) := match ρ c with
  | some (.pv (.lit (.bool t))) => (if t then ρ a else ρ b).map fun v => (v, none)
  | _ => none
def qNil (ρ : Operand → Option AV) (x : Operand) : Option (AV × Option Nat) := match ρ x with
  | some v => if v.isThere then some (v, none) else none
  | none => none
def qLoad (P : Program) (ρ : Operand → Option AV) (h : List AObj) (t : TypeId) (x : Operand) : Option (AV × Option Nat) := match ρ x with
  | some a => match cellsAt h a with
    | some (l, d) => (loadA P t l).map fun v => (v, d)
    | none => none
  | none => none
def qFA (P : Program) (ρ : Operand → Option AV) (s : TypeId) (x : Operand) (f : Nat) : Option (AV × Option Nat) := match ρ x, fieldA P s f with
  | some a, some fl => match szA P fl.type with
    | some (_ + 1) => (addA a fl.offset).map fun v => (v, none)
    | _ => none
  | _, _ => none
def qField (P : Program) (ρ : Operand → Option AV) (s : TypeId) (x : Operand) (f : Nat) : Option (AV × Option Nat) := match ρ x, fieldA P s f with
  | some (.agg l), some fl => (partA P fl.type l fl.offset).map fun v => (v, none)
  | _, _ => none
def qIA (P : Program) (ρ : Operand → Option AV) (t : TypeId) (x i : Operand) : Option (AV × Option Nat) := match ρ x, ρ i with
  | some a, some v => match intV v with
    | some n => (indexAtA P t a n).map fun v => (v, none)
    | none => none
  | _, _ => none
def qIndex (P : Program) (ρ : Operand → Option AV) (t : TypeId) (x i : Operand) : Option (AV × Option Nat) := match ρ x, ρ i with
  | some a, some v => (indexA P t a v).map fun v => (v, none)
  | _, _ => none
def qExtract (ρ : Operand → Option AV) (x : Operand) (i : Nat) : Option (AV × Option Nat) := match ρ x with
  | some (.tup l) => l[i]?.map fun v => (v, none)
  | _ => none
def qBin (P : Program) (ρ : Operand → Option AV) (b : BinOp) (t : TypeId) (x y : Operand) : Option (AV × Option Nat) := match ρ x, ρ y with
  | some u, some v => (binA P b t x y u v).map fun v => (v, none)
  | _, _ => none
def qUn (P : Program) (ρ : Operand → Option AV) (u : UnOp) (x : Operand) : Option (AV × Option Nat) := match ρ x with
  | some v => match v.val? with
    | some a => match pureRun P (Op.unary u a) with
      | some r => (ofVal r).map fun v => (v, none)
      | none => none
    | none => none
  | none => none
def qConv (P : Program) (ρ : Operand → Option AV) (s d : TypeId) (x : Operand) : Option (AV × Option Nat) := match ρ x with
  | some v => match v.val? with
    | some a => match pureRun P (convert s d a) with
      | some r => (ofVal r).map fun v => (v, none)
      | none => none
    | none => none
  | none => none
def qSlice (P : Program) (ρ : Operand → Option AV) (t : TypeId) (x : Operand) (lo hi mx : Option Operand) : Option (AV × Option Nat) := match ρ x with
  | some a => (sliceA P t ρ a lo hi mx).map fun v => (v, none)
  | none => none
def qMk (ρ : Operand → Option AV) (fn : Fn) (first caps : Array Operand) : Option (AV × Option Nat) := match fn with
  | .func f => if first.isEmpty then match opsA ρ caps.toList with
      | some l => some (.fn f l, none)
      | none => none
    else none
  | _ => none
def qBuild (P : Program) (ρ : Operand → Option AV) (t : TypeId) (parts : Array (Nat × Operand)) : Option (AV × Option Nat) := match partsA ρ parts.toList with
  | some ps => (buildA P t ps).map fun l => (.agg l, none)
  | none => none
def qCall (P : Program) (ty : TypeId) (ρ : Operand → Option AV) (c : Call) : Option (AV × Option Nat) := match c with
  | ⟨.builtin b, args, ts⟩ => match opsA ρ args.toList with
    | some vs => (builtinA P b ts ty vs).map fun v => (v, none)
    | none => none
  | _ => none
def qopF (P : Program) (op : Op) (ty : TypeId) (ρ : Operand → Option AV) (h : List AObj) : Option (AV × Option Nat) := match op with
  | .move x => qMove ρ x
  | .assign x => qMove ρ x
  | .pick c a b => qPick ρ c a b
  | .nilCheck x => qNil ρ x
  | .load t x => qLoad P ρ h t x
  | .fieldAddr s x f => qFA P ρ s x f
  | .field s x f => qField P ρ s x f
  | .indexAddr t x i => qIA P ρ t x i
  | .index t x i => qIndex P ρ t x i
  | .extract x i => qExtract ρ x i
  | .binOp b t x y _ => qBin P ρ b t x y
  | .unOp u _ x => qUn P ρ u x
  | .convert s d x => qConv P ρ s d x
  | .slice t x lo hi mx => qSlice P ρ t x lo hi mx
  | .makeFunc fn first caps => qMk ρ fn first caps
  | .build t parts => qBuild P ρ t parts
  | .call c => qCall P ty ρ c
  | _ => none
theorem qopF_eq (P : Program) (op : Op) (ty : TypeId) (ρ : Operand → Option AV) (h : List AObj) : qopF P op ty ρ h = qop P op ty ρ h := by
  cases op with
  | move x => show qMove ρ x = (ρ x).map _; unfold qMove; cases ρ x <;> rfl
  | assign x => show qMove ρ x = (ρ x).map _; unfold qMove; cases ρ x <;> rfl
  | makeFunc fn first caps => cases fn <;> rfl
  | call c =>
    obtain ⟨f, args, ts⟩ := c
    cases f <;> rfl
  | _ => rfl
def eBox (ρ : Operand → Option AV) (h : List AObj) (t : TypeId) (x : Operand) : Option (AV × List AObj × List Nat) := match ρ x with
  | some v => some (.ptr h.length 0, h ++ [.box t v.cells], [])
  | none => none
def eAlloc (P : Program) (h : List AObj) (t : TypeId) : Option (AV × List AObj × List Nat) := match zeroA P t with
  | some l => some (.ptr h.length 0, h ++ [.box t l], [])
  | none => none
def eBsl (P : Program) (ρ : Operand → Option AV) (h : List AObj) (t : TypeId) (len : Nat) (parts : Array (Nat × Operand)) : Option (AV × List AObj × List Nat) := match partsA ρ parts.toList with
  | some ps => match bslA P t len ps with
    | some (e, s, pvs) => some (.trows h.length (chunk s len pvs), h ++ [.tok e s len], [])
    | none => none
  | none => none
def eStore (P : Program) (ρ : Operand → Option AV) (h : List AObj) (t : TypeId) (x y : Operand) : Option (AV × List AObj × List Nat) := match ρ x, ρ y with
  | some (.ptr i o), some v => match h[i]? with
    | some (.box bt cells) => if szA P t = some v.cells.length ∧ o + v.cells.length ≤ cells.length ∧ v.cells.all AV.isCell = true then some (.tup [], h.set i (.box bt (setAt cells o v.cells)), [i]) else none
    | _ => none
  | _, _ => none
def eCall (P : Program) (ρ : Operand → Option AV) (h : List AObj) (c : Call) : Option (AV × List AObj × List Nat) := match c with
  | ⟨.builtin .append, args, ts⟩ => match opsA ρ args.toList, ts.toList with
    | some [s, x], [t, t'] => if t = t' then match rowsOf x with
        | some es' => appendA P t s es' h
        | none => if isNilSlice x then appendA P t s [] h else none
      else none
    | _, _ => none
  | _ => none
def eopF (P : Program) (op : Op) (ρ : Operand → Option AV) (h : List AObj) : Option (AV × List AObj × List Nat) := match op with
  | .alloc t => eAlloc P h t
  | .box t x => eBox ρ h t x
  | .buildSlice t len parts => eBsl P ρ h t len parts
  | .store t x y => eStore P ρ h t x y
  | .call c => eCall P ρ h c
  | _ => none
theorem eopF_eq (P : Program) (op : Op) (ρ : Operand → Option AV) (h : List AObj) : eopF P op ρ h = eop P op ρ h := by
  cases op with
  | call c =>
    obtain ⟨f, args, ts⟩ := c
    cases f with
    | builtin b => cases b <;> rfl
    | _ => rfl
  | _ => rfl
/-- One operation: its value, the heap, what it has touched, what it has read. -/
def actA (P : Program) (call : Nat → List AV → List AObj → Option (AV × List AObj)) (okf : Nat → Bool) (o : Oper) (sl : Env) (h : List AObj) : Option (AV × List AObj × List Nat) :=
  match qopF P o.op o.type (aev sl) h with
  | some (v, _) => some (v, h, [])
  | none => match eopF P o.op (aev sl) h with
    | some r => some r
    | none => match callee (aev sl) o.op with
      | some (g, args) => if okf g then doCall call g args h else none
      | none => none
def putA (n : Nat) (sl : Env) (d : Option Tmp) (v : AV) : Env := match d with
  | some d => match Nat.blt d n with
    | true => (d, v) :: sl
    | false => []
  | none => sl
theorem putA_sound {K : Kn} {n : Nat} {sl : Env} {a : Act} (h : EnvOk K n sl a.tmps) {v : AV} {u : Value} (hv : VR K v u) (d : Option Tmp) : EnvOk K n (putA n sl d v) (a.put d u).tmps ∧ (a.put d u).defers = a.defers := by
  cases d with
  | none => exact ⟨h, rfl⟩
  | some d =>
    refine ⟨?_, rfl⟩
    show EnvOk K n (match Nat.blt d n with | true => (d, v) :: sl | false => []) (a.tmps.setIfInBounds d u)
    cases hb : Nat.blt d n with
    | false => exact ⟨by simpa using h.1, fun d v hd => by cases hd⟩
    | true =>
      have hlt : (d : Nat) < n := Nat.le_of_ble_eq_true hb
      have hlt' : (d : Nat) < a.tmps.size := Nat.lt_of_lt_of_le hlt h.1
      refine ⟨by simpa using h.1, fun k x hk => ?_⟩
      simp only [look] at hk
      cases hq : Nat.beq d k with
      | true =>
        rw [hq] at hk
        cases hk
        have e : (d : Nat) = k := Nat.eq_of_beq_eq_true hq
        subst e
        have : (a.tmps.setIfInBounds d u).getD d Go.undef = u := by simp [Array.getD, hlt']
        rw [this]; exact hv
      | false =>
        rw [hq] at hk
        have e : (d : Nat) ≠ k := Nat.ne_of_beq_eq_false hq
        have : (a.tmps.setIfInBounds d u).getD k Go.undef = a.tmps.getD k Go.undef := by
          simp only [Array.getD_eq_getD_getElem?]
          rw [Array.getElem?_setIfInBounds_ne e]
        rw [this]; exact h.2 k x hk
/-- Only some slots are kept in sight. -/
def keepE : List Nat → Env → Env
  | [], _ => []
  | d :: ks, e => match look e d with
    | some v => (d, v) :: keepE ks e
    | none => keepE ks e
theorem keepE_look {e : Env} {d : Nat} {v : AV} : ∀ {ks : List Nat}, look (keepE ks e) d = some v → look e d = some v
  | [], h => by cases h
  | k :: ks, h => by
    rw [keepE] at h
    split at h
    · rename_i x hx
      simp only [look] at h
      split at h
      · rename_i hb
        cases h
        rw [← Nat.eq_of_beq_eq_true hb]; exact hx
      · exact keepE_look h
    · exact keepE_look h
theorem EnvOk.keep {K : Kn} {n : Nat} {e : Env} {tm : Array Value} (h : EnvOk K n e tm) (ks : List Nat) : EnvOk K n (keepE ks e) tm := ⟨h.1, fun d v hd => h.2 d v (keepE_look hd)⟩
def wantA (ops : Array Oper) (sl : Env) (o : Oper) : Option Bool := match o.guard with
  | none => some true
  | some (j, b) => match (ops[j]?).bind (·.dst) with
    | some d => match look sl d with
      | some (.pv (.lit (.bool c))) => some (c == b)
      | some (.tup []) => some false
      | _ => none
    | none => none
theorem wantA_sound {K : Kn} {n : Nat} {ops : Array Oper} {sl : Env} {a : Act} (h : EnvOk K n sl a.tmps) {o : Oper} {b : Bool} (hw : wantA ops sl o = some b) : Region.wanted o (yielded ops a.tmps) = b := by
  unfold wantA at hw
  unfold Region.wanted
  cases hg : o.guard with
  | none => rw [hg] at hw; cases hw; rfl
  | some p =>
    obtain ⟨j, c⟩ := p
    rw [hg] at hw
    simp only at hw ⊢
    cases hd : (ops[j]?).bind (·.dst) with
    | none => rw [hd] at hw; cases hw
    | some d =>
      rw [hd] at hw
      simp only at hw
      have key : ∀ x : Value, a.tmps.getD d Go.undef = x → (yielded ops a.tmps j == some c) = (match x with | .bool e => e == c | _ => false) := by
        intro x hx
        unfold yielded
        rw [hd]
        simp only [Option.bind_some]
        by_cases hlt : d < a.tmps.size
        · have e1 : a.tmps[d]? = some a.tmps[d] := Array.getElem?_eq_getElem hlt
          have e2 : a.tmps[d] = x := by simpa [Array.getD, hlt] using hx
          rw [e1, e2]
          cases x <;> simp
        · have e1 : a.tmps[d]? = none := Array.getElem?_eq_none (Nat.le_of_not_lt hlt)
          have e2 : x = Go.undef := by rw [← hx]; simp [Array.getD, hlt]
          rw [e1, e2]
          simp [Go.undef]
      split at hw
      · rename_i e he
        cases hw
        have hs := h.2 d _ he
        rw [key _ (val_eq hs rfl)]
      · rename_i he
        cases hw
        have hs := h.2 d _ he
        generalize hx : a.tmps.getD d Go.undef = x at hs
        cases hs with
        | tup _ cs hl _ =>
          rw [key _ hx]
      · cases hw

section
variable {P : Program} {call : Nat → List AV → List AObj → Option (AV × List AObj)} {okf : Nat → Bool} {ops : Array Oper} {Q : Exit → Act → World → Prop}

/-- One operation, in the walk. -/
theorem actA_sound (hcall : CallsOk P call) (hok : ∀ f, okf f = true → callable P f = true) {n : Nat} {o : Oper} {sl : Env} {h : List AObj} {v : AV} {h' : List AObj} {touch : List Nat} (ha : actA P call okf o sl h = some (v, h', touch))
    {K : Kn} {w : World} {a : Act} (H : WR K h w) (hs : EnvOk K n sl a.tmps) {next : Act → World → Prop}
    (hn : ∀ K' w' u, VR K' v u → Step K h w K' h' w' → Frm (K.at h touch) w w' → next (a.put o.dst u) w') : o.wp P a w next Q := by
  have hρ : ∀ x v, aev sl x = some v → VR K v (a.eval x) := fun x v hx => aev_sound hs hx
  unfold actA at ha
  split at ha
  · rename_i v' d hq
    cases ha
    rw [qopF_eq] at hq
    obtain ⟨u, hu, hr⟩ := qop_sound (o := o) (ρ := a.eval) H hρ hq
    have := hr w H.agr (fun _ _ _ _ => rfl)
    unfold Oper.wp
    rw [this]
    exact hn K w u hu (Step.refl H) (Frm.refl _ _)
  · split at ha
    · rename_i r he
      cases ha
      rw [eopF_eq] at he
      obtain ⟨n, u, w', K', hrun, hnu, hv, hst, hf⟩ := eop_sound (o := o) (ρ := a.eval) H hρ he
      unfold Oper.wp
      rw [hrun]
      rcases hnu with rfl | ⟨rfl, rfl⟩
      · exact hn K' w' u hv hst hf
      · exact hn K' w' _ hv hst hf
    · split at ha
      · rename_i g args hc
        split at ha
        · rename_i hg
          obtain ⟨hs0, args', v0, hs', h1, h2, h3, h4, h5, h6⟩ := doCall_spec ha (fun hr => renL_none _ args hr)
          -- the operation enters the callee
          have hex : ∃ us : List Value, VL K args us ∧ (execOp a.eval o).run P w = .ok (.enter g us.toArray) w := by
            unfold callee at hc
            split at hc
            · rename_i f as ts ho
              split at hc
              · rename_i g' caps vs hf hvs
                cases hc
                have hfv := hρ f _ hf
                generalize hfe : a.eval f = fv at hfv
                have hvl := opsA_sound hρ _ _ hvs
                cases hfv with
                | fn _ _ cs hl hh =>
                  refine ⟨as.toList.map a.eval ++ cs, hvl.append ⟨hl, hh⟩, ?_⟩
                  have hcal := hok g hg
                  unfold callable at hcal
                  split at hcal
                  · rename_i fn hfn
                    rw [Bool.and_eq_true] at hcal
                    obtain ⟨b1, b2⟩ := hcal
                    have b3 : (fn.name == "runtime.NumGoroutine") = false := by simpa using b2
                    have b4 : fn.body.isNone = false := by cases hb : fn.body <;> simp_all
                    simp only [execOp, ho, resolve, Deferred.ofValue, hfe, invoke, callFunc, Sem.run_bind, Sem.run_pure, Result.andThen_ok, run_program, hfn, b3, b4, Bool.false_eq_true, if_false, arr_map a.eval as]
                    simp
                  · cases hcal
              · cases hc
            · cases hc
          obtain ⟨us, hvl, hrun⟩ := hex
          unfold Oper.wp
          rw [hrun]
          have hcs := hcall g args' hs0 v0 hs' h4 (K.sub touch) w us (H.sub h1 h2) (renL_sound (Ren.sub K touch) hvl h3)
          refine hcs.mono ?_
          rintro e w' ⟨u, K', rfl, hv, hst⟩
          obtain ⟨m1, m2, m3⟩ := merge_sound H h1 h2 hst h6
          exact hn _ w' u (ren_sound m2 hv h5) m1 m3
        · cases ha
      · cases ha

/-- A region in the order of the text. -/
def aregT (P : Program) (call : Nat → List AV → List AObj → Option (AV × List AObj)) (okf : Nat → Bool) (n : Nat) (ops : Array Oper) : List Oper → Env → List AObj → Option (Env × List AObj)
  | [], sl, h => some (sl, h)
  | o :: rest, sl, h => match wantA ops sl o with
    | some true => match actA P call okf o sl h with
      | some (v, h', _) => aregT P call okf n ops rest (putA n sl o.dst v) h'
      | none => none
    | some false => aregT P call okf n ops rest (putA n sl o.dst (.tup [])) h
    | none => none
theorem aregT_sound (hcall : CallsOk P call) (hok : ∀ f, okf f = true → callable P f = true) {n : Nat} : ∀ (l : List Oper) (sl : Env) (h : List AObj) (sl' : Env) (h' : List AObj), aregT P call okf n ops l sl h = some (sl', h') →
    ∀ (K : Kn) (w : World) (a : Act), WR K h w → EnvOk K n sl a.tmps → (∀ K' a' w', EnvOk K' n sl' a'.tmps → a'.defers = a.defers → Step K h w K' h' w' → Q .normal a' w') → wpList P ops Q l a w
  | [], sl, h, sl', h', he, K, w, a, H, hs, hq => by
    cases he
    exact hq K a w hs rfl (Step.refl H)
  | o :: rest, sl, h, sl', h', he, K, w, a, H, hs, hq => by
    rw [aregT] at he
    refine wpList_step fun Kp hK => ?_
    split at he
    · rename_i hw
      rw [wantA_sound hs hw]
      simp only [if_true]
      split at he
      · rename_i v h1 t ha
        refine actA_sound hcall hok ha H hs fun K' w' u hv hst _ => hK _ _ ?_
        obtain ⟨p1, p2⟩ := putA_sound (hs.mono hst.ext) hv o.dst
        exact aregT_sound hcall hok rest _ h1 sl' h' he K' w' _ hst.wr p1 (fun K2 a2 w2 q1 q2 q3 => hq K2 a2 w2 q1 (q2.trans p2) (hst.trans q3))
      · cases he
    · rename_i hw
      rw [wantA_sound hs hw]
      simp only [Bool.false_eq_true, if_false]
      refine hK _ _ ?_
      obtain ⟨p1, p2⟩ := putA_sound hs (VR.undef K) o.dst
      exact aregT_sound hcall hok rest _ h sl' h' he K w _ H p1 (fun K2 a2 w2 q1 q2 q3 => hq K2 a2 w2 q1 (q2.trans p2) q3)
    · cases he
end
end Go.Proofs.Ytfekieopkahcfaa
