/- One operation of any kind; regions in the order of the text. -/
import Derived.Test.YtjpjcjnacnlhdaaGreatAbN
import Derived.Tactics
namespace Go.Proofs.YtjpjcjnacnlhdaaGreat
open Go.RowKit

/-- A panic as an answer: its value. -/
def panOf : AV → Option AV
  | .tup [.tup [], v] => some v
  | _ => none
theorem panOf_some {v x : AV} (h : panOf v = some x) : v = .tup [.tup [], x] := by
  unfold panOf at h
  split at h
  · cases h; rfl
  · cases h
/-- How a call ends. -/
def EndR (K : Kn) (v : AV) (e : Ending) : Prop := match panOf v with
  | some x => ∃ u, e = .panicked [{ v := u, recovered := false }] ∧ VR K x u
  | none => ∃ u, e = .returned u ∧ VR K v u
theorem EndR.ret {K : Kn} {v : AV} {e : Ending} (h : EndR K v e) (hn : panOf v = none) : ∃ u, e = .returned u ∧ VR K v u := by
  unfold EndR at h
  rw [hn] at h; exact h
theorem EndR.pan {K : Kn} {v x : AV} {e : Ending} (h : EndR K v e) (hn : panOf v = some x) : ∃ u, e = .panicked [{ v := u, recovered := false }] ∧ VR K x u := by
  unfold EndR at h
  rw [hn] at h; exact h
theorem EndR.of {K : Kn} {v : AV} {u : Value} (hn : panOf v = none) (h : VR K v u) : EndR K v (.returned u) := by
  unfold EndR
  rw [hn]; exact ⟨u, rfl, h⟩
theorem EndR.ofPan {K : Kn} {x : AV} {u : Value} (h : VR K x u) : EndR K (.tup [.tup [], x]) (.panicked [{ v := u, recovered := false }]) := ⟨u, rfl, h⟩
theorem EndR.map {K K' : Kn} {v v' : AV} {e : Ending} (h : EndR K v e) (h1 : ∀ x, panOf v = some x → ∃ x', panOf v' = some x' ∧ ∀ u, VR K x u → VR K' x' u) (h2 : panOf v = none → panOf v' = none ∧ ∀ u, VR K v u → VR K' v' u) : EndR K' v' e := by
  cases hv : panOf v with
  | none =>
    obtain ⟨u, rfl, hu⟩ := h.ret hv
    exact .of (h2 hv).1 ((h2 hv).2 u hu)
  | some x =>
    obtain ⟨u, rfl, hu⟩ := h.pan hv
    obtain ⟨x', hx', hh⟩ := h1 x hv
    rw [panOf_some hx']
    exact .ofPan (hh u hu)
theorem ren_pan {f : Nat → Option Nat} {v v' : AV} (h : ren f v = some v') : (∀ x, panOf v = some x → ∃ x', panOf v' = some x' ∧ ren f x = some x') ∧ (panOf v = none → panOf v' = none) := by
  refine ⟨fun x hx => ?_, fun hn => ?_⟩
  · rw [panOf_some hx, ren] at h
    obtain ⟨l, hl, e⟩ := map_some' h
    subst e
    rw [renL, renL, renL, ren, renL] at hl
    simp only [Option.map_some] at hl
    cases hx' : ren f x with
    | none => rw [hx'] at hl; cases hl
    | some x' => rw [hx'] at hl; cases hl; exact ⟨x', rfl, rfl⟩
  · cases hp : panOf v' with
    | none => rfl
    | some y =>
      rw [panOf_some hp] at h
      exfalso
      cases v with
      | tup l =>
        rw [ren] at h
        obtain ⟨l', hl, e⟩ := map_some' h
        cases e
        have h1 := renL_len hl
        match l, h1, hl, hn with
        | [a, b], _, hl, hn =>
          have ha := renL_at hl 0 (by simp) (by simp)
          simp only [List.getElem_cons_zero] at ha
          cases a with
          | tup m =>
            rw [ren] at ha
            obtain ⟨m', hm, e⟩ := map_some' ha
            cases e
            have h2 := renL_len hm
            cases m with
            | nil => cases hn
            | cons _ _ => simp at h2
          | pv _ => cases ha
          | cptr _ => cases ha
          | trows _ _ => rw [ren] at ha; obtain ⟨_, _, e⟩ := map_some' ha; cases e
          | tsym _ _ => rw [ren] at ha; obtain ⟨_, _, e⟩ := map_some' ha; cases e
          | ptr _ _ => rw [ren] at ha; obtain ⟨_, _, e⟩ := map_some' ha; cases e
          | agg _ => rw [ren] at ha; obtain ⟨_, _, e⟩ := map_some' ha; cases e
          | fn _ _ => rw [ren] at ha; obtain ⟨_, _, e⟩ := map_some' ha; cases e
          | sl _ _ _ _ => rw [ren] at ha; obtain ⟨_, _, e⟩ := map_some' ha; cases e
          | mp _ => rw [ren] at ha; obtain ⟨_, _, e⟩ := map_some' ha; cases e
          | ifc _ _ => rw [ren] at ha; obtain ⟨_, _, e⟩ := map_some' ha; cases e
      | pv _ => cases h
      | cptr _ => cases h
      | trows _ _ => rw [ren] at h; obtain ⟨_, _, e⟩ := map_some' h; cases e
      | tsym _ _ => rw [ren] at h; obtain ⟨_, _, e⟩ := map_some' h; cases e
      | ptr _ _ => rw [ren] at h; obtain ⟨_, _, e⟩ := map_some' h; cases e
      | agg _ => rw [ren] at h; obtain ⟨_, _, e⟩ := map_some' h; cases e
      | fn _ _ => rw [ren] at h; obtain ⟨_, _, e⟩ := map_some' h; cases e
      | sl _ _ _ _ => rw [ren] at h; obtain ⟨_, _, e⟩ := map_some' h; cases e
      | mp _ => rw [ren] at h; obtain ⟨_, _, e⟩ := map_some' h; cases e
      | ifc _ _ => rw [ren] at h; obtain ⟨_, _, e⟩ := map_some' h; cases e
theorem EndR.ren {f : Nat → Option Nat} {K K' : Kn} (R : Ren f K K') {v v' : AV} {e : Ending} (h : EndR K v e) (hr : ren f v = some v') : EndR K' v' e := by
  obtain ⟨h1, h2⟩ := ren_pan hr
  refine h.map (fun x hx => ?_) (fun hn => ⟨h2 hn, fun u hu => ren_sound R hu hr⟩)
  obtain ⟨x', hx', hr'⟩ := h1 x hx
  exact ⟨x', hx', fun u hu => ren_sound R hu hr'⟩
theorem EndR.mono {K K' : Kn} (x : Ext K K') {v : AV} {e : Ending} (h : EndR K v e) : EndR K' v e := h.map (fun y hy => ⟨y, hy, fun u hu => hu.mono x⟩) (fun hn => ⟨hn, fun u hu => hu.mono x⟩)
/-- What a call gives, abstractly. -/
def CallOk (R : Nat → PV) (P : Program) (f : Nat) (args : List AV) (h : List AObj) (v : AV) (h' : List AObj) : Prop :=
  ∀ (K : Kn) (w : World) (us : List Value), K.R = R → WR K h w → VL K args us → Calls P f us.toArray w fun e w' => ∃ K', EndR K' v e ∧ Step K h w K' h' w'
def CallsOk (R : Nat → PV) (P : Program) (call : Nat → List AV → List AObj → Option (AV × List AObj)) : Prop := ∀ f args h v h', call f args h = some (v, h') → CallOk R P f args h v h'
def callable (P : Program) (f : Nat) : Bool := match P.funcs[f]? with
  | some fn => fn.body.isSome && !(fn.name == "runtime.NumGoroutine")
  | none => false
def callee (ρ : Operand → Option AV) : Op → Option (Nat × List AV)
  | .call ⟨.value f, args, _⟩ => match ρ f, opsA ρ args.toList with
    | some (.fn g caps), some vs => some (g, vs ++ caps)
    | _, _ => none
  | _ => none
mutual
def refs : AV → List Nat
  | .pv _ => []
  | .trows t _ => [t]
  | .tsym t _ => [t]
  | .ptr i _ => [i]
  | .cptr _ => []
  | .agg l => refsL l
  | .tup l => refsL l
  | .fn _ l => refsL l
  | .sl t _ _ _ => [t]
  | .mp t => [t]
  | .ifc _ v => refs v
def refsL : List AV → List Nat
  | [] => []
  | a :: l => refs a ++ refsL l
end
def refsO : AObj → List Nat
  | .box _ cells => refsL cells
  | .mp _ vs => refsL vs
  | _ => []
/-- The objects that can be reached. -/
def reach (h : List AObj) : Nat → List Nat → List Nat → List Nat
  | 0, _, done => done
  | _ + 1, [], done => done
  | n + 1, i :: todo, done => if done.elem i then reach h n todo done else match h[i]? with
    | some x => reach h n (refsO x ++ todo) (done ++ [i])
    | none => done
def doCallAt (call : Nat → List AV → List AObj → Option (AV × List AObj)) (f : Nat) (args : List AV) (h : List AObj) (ids : List Nat) : Option (AV × List AObj × List Nat) :=
  if nodupB ids then match subH h ids, renL (fun i => posOf i ids) args with
    | some hs, some args' => match call f args' hs with
      | some (v, hs') => match ren (backF ids h.length) v, mergeH h ids hs' with
        | some v', some h' => some (v', h', ids)
        | _, _ => none
      | none => none
    | _, _ => none
  else none
def doCall (call : Nat → List AV → List AObj → Option (AV × List AObj)) (f : Nat) (args : List AV) (h : List AObj) : Option (AV × List AObj × List Nat) :=
  match refsL args with
  | [] => match call f args [] with
    | some (v, hs') => match ren (backF [] h.length) v, mergeH h [] hs' with
      | some v', some h' => some (v', h', [])
      | _, _ => none
    | none => none
  | r => doCallAt call f args h (reach h 1000 r [])
theorem doCall_spec {call : Nat → List AV → List AObj → Option (AV × List AObj)} {f : Nat} {args : List AV} {h : List AObj} {v : AV} {h' : List AObj} {ids : List Nat} (hd : doCall call f args h = some (v, h', ids))
    (hrefs : refsL args = [] → renL (fun i => posOf i []) args = some args) :
    ∃ hs args' v0 hs', nodupB ids = true ∧ subH h ids = some hs ∧ renL (fun i => posOf i ids) args = some args' ∧ call f args' hs = some (v0, hs') ∧ ren (backF ids h.length) v0 = some v ∧ mergeH h ids hs' = some h' := by
  unfold doCall at hd
  split at hd
  · rename_i hr
    split at hd
    · rename_i v0 hs' hc
      split at hd
      · rename_i v' h'' hv hm
        cases hd
        exact ⟨[], args, v0, hs', rfl, rfl, hrefs hr, hc, hv, hm⟩
      · cases hd
    · cases hd
  · unfold doCallAt at hd
    split at hd
    · rename_i hn
      split at hd
      · rename_i hs args' hs1 hr1
        split at hd
        · rename_i v0 hs' hc
          split at hd
          · rename_i v' h'' hv hm
            cases hd
            exact ⟨hs, args', v0, hs', hn, hs1, hr1, hc, hv, hm⟩
          · cases hd
        · cases hd
      · cases hd
    · cases hd
mutual
theorem ren_none (f : Nat → Option Nat) : ∀ a : AV, refs a = [] → ren f a = some a
  | .pv p, _ => rfl
  | .trows t es, h => by simp [refs] at h
  | .tsym t i, h => by simp [refs] at h
  | .ptr i o, h => by simp [refs] at h
  | .cptr cs, _ => rfl
  | .agg l, h => by rw [refs] at h; rw [ren, renL_none f l h]; rfl
  | .tup l, h => by rw [refs] at h; rw [ren, renL_none f l h]; rfl
  | .fn g l, h => by rw [refs] at h; rw [ren, renL_none f l h]; rfl
  | .sl t a b c, h => by simp [refs] at h
  | .mp t, h => by simp [refs] at h
  | .ifc t v, h => by rw [refs] at h; rw [ren, ren_none f v h]; rfl
theorem renL_none (f : Nat → Option Nat) : ∀ l : List AV, refsL l = [] → renL f l = some l
  | [], _ => rfl
  | a :: l, h => by
    rw [refsL, List.append_eq_nil_iff] at h
    rw [renL, ren_none f a h.1, renL_none f l h.2]
end
/-! The same, each kind of operation apart: so that little is laid open at a step. -/
def qMove (ρ : Operand → Option AV) (x : Operand) : Option (AV × Option Nat) := match ρ x with
  | some v => some (v, none)
  | none => none
def qPick (ρ : Operand → Option AV) (c a b : Operand) : Option (AV × Option Nat) := match ρ c with
  | some (.pv (.lit (.bool t))) => (if t then ρ a else ρ b).map fun v => (v, none)
  | _ => none
def qNil (ρ : Operand → Option AV) (x : Operand) : Option (AV × Option Nat) := match ρ x with
  | some v => if v.isThere then some (v, none) else none
  | none => none
def qLoad (P : Program) (ρ : Operand → Option AV) (h : List AObj) (t : TypeId) (x : Operand) : Option (AV × Option Nat) := match ρ x with
  | some a => match cellsAt h a with
    | some (l, d) => (loadA P t l).map fun v => (v, d)
    | none => none
  | none => none
def qFA (P : Program) (ρ : Operand → Option AV) (s : TypeId) (x : Operand) (f : Nat) : Option (AV × Option Nat) := match ρ x, fieldA P s f with
  | some a, some fl => match szA P fl.type with
    | some (_ + 1) => (addA a fl.offset).map fun v => (v, none)
    | _ => none
  | _, _ => none
def qField (P : Program) (ρ : Operand → Option AV) (s : TypeId) (x : Operand) (f : Nat) : Option (AV × Option Nat) := match ρ x, fieldA P s f with
  | some (.agg l), some fl => (partA P fl.type l fl.offset).map fun v => (v, none)
  | _, _ => none
def qIA (P : Program) (ρ : Operand → Option AV) (t : TypeId) (x i : Operand) : Option (AV × Option Nat) := match ρ x, ρ i with
  | some a, some v => match intV v with
    | some n => (indexAtA P t a n).map fun v => (v, none)
    | none => none
  | _, _ => none
def qIndex (P : Program) (ρ : Operand → Option AV) (t : TypeId) (x i : Operand) : Option (AV × Option Nat) := match ρ x, ρ i with
  | some a, some v => (indexA P t a v).map fun v => (v, none)
  | _, _ => none
def qExtract (ρ : Operand → Option AV) (x : Operand) (i : Nat) : Option (AV × Option Nat) := match ρ x with
  | some (.tup l) => l[i]?.map fun v => (v, none)
  | _ => none
def qBin (P : Program) (ρ : Operand → Option AV) (b : BinOp) (t : TypeId) (x y : Operand) : Option (AV × Option Nat) := match ρ x, ρ y with
  | some u, some v => (binA P b t x y u v).map fun v => (v, none)
  | _, _ => none
def qUn (P : Program) (ρ : Operand → Option AV) (u : UnOp) (x : Operand) : Option (AV × Option Nat) := match ρ x with
  | some v => match v.val? with
    | some a => match pureRun P (Op.unary u a) with
      | some r => (ofVal r).map fun v => (v, none)
      | none => none
    | none => none
  | none => none
def qConv (P : Program) (ρ : Operand → Option AV) (s d : TypeId) (x : Operand) : Option (AV × Option Nat) := match ρ x with
  | some v => match v.val? with
    | some a => match pureRun P (convert s d a) with
      | some r => (ofVal r).map fun v => (v, none)
      | none => none
    | none => none
  | none => none
def qSlice (P : Program) (ρ : Operand → Option AV) (t : TypeId) (x : Operand) (lo hi mx : Option Operand) : Option (AV × Option Nat) := match ρ x with
  | some a => (sliceA P t ρ a lo hi mx).map fun v => (v, none)
  | none => none
def qMk (ρ : Operand → Option AV) (fn : Fn) (first caps : Array Operand) : Option (AV × Option Nat) := match fn with
  | .func f => if first.isEmpty then match opsA ρ caps.toList with
      | some l => some (.fn f l, none)
      | none => none
    else none
  | _ => none
def qBuild (P : Program) (ρ : Operand → Option AV) (t : TypeId) (parts : Array (Nat × Operand)) : Option (AV × Option Nat) := match partsA ρ parts.toList with
  | some ps => (buildA P t ps).map fun l => (.agg l, none)
  | none => none
def qCall (P : Program) (ty : TypeId) (ρ : Operand → Option AV) (c : Call) : Option (AV × Option Nat) := match c with
  | ⟨.builtin b, args, ts⟩ => match opsA ρ args.toList with
    | some vs => (builtinA P b ts ty vs).map fun v => (v, none)
    | none => none
  | _ => none
def qopF (P : Program) (op : Op) (ty : TypeId) (ρ : Operand → Option AV) (h : List AObj) : Option (AV × Option Nat) := match op with
  | .move x => qMove ρ x
  | .assign x => qMove ρ x
  | .pick c a b => qPick ρ c a b
  | .nilCheck x => qNil ρ x
  | .load t x => qLoad P ρ h t x
  | .fieldAddr s x f => qFA P ρ s x f
  | .field s x f => qField P ρ s x f
  | .indexAddr t x i => qIA P ρ t x i
  | .index t x i => qIndex P ρ t x i
  | .extract x i => qExtract ρ x i
  | .binOp b t x y _ => qBin P ρ b t x y
  | .unOp u _ x => qUn P ρ u x
  | .convert s d x => qConv P ρ s d x
  | .slice t x lo hi mx => qSlice P ρ t x lo hi mx
  | .makeFunc fn first caps => qMk ρ fn first caps
  | .build t parts => qBuild P ρ t parts
  | .call c => qCall P ty ρ c
  | _ => none
theorem qopF_eq (P : Program) (op : Op) (ty : TypeId) (ρ : Operand → Option AV) (h : List AObj) : qopF P op ty ρ h = qop P op ty ρ h := by
  cases op with
  | move x => show qMove ρ x = (ρ x).map _; unfold qMove; cases ρ x <;> rfl
  | assign x => show qMove ρ x = (ρ x).map _; unfold qMove; cases ρ x <;> rfl
  | makeFunc fn first caps => cases fn <;> rfl
  | call c =>
    obtain ⟨f, args, ts⟩ := c
    cases f <;> rfl
  | _ => rfl
def eBox (ρ : Operand → Option AV) (h : List AObj) (t : TypeId) (x : Operand) : Option (AV × List AObj × List Nat) := match ρ x with
  | some v => some (.ptr h.length 0, h ++ [.box t v.cells], [])
  | none => none
def eAlloc (P : Program) (h : List AObj) (t : TypeId) : Option (AV × List AObj × List Nat) := match zeroA P t with
  | some l => some (.ptr h.length 0, h ++ [.box t l], [])
  | none => none
def eBsl (P : Program) (ρ : Operand → Option AV) (h : List AObj) (t : TypeId) (len : Nat) (parts : Array (Nat × Operand)) : Option (AV × List AObj × List Nat) := match partsA ρ parts.toList with
  | some ps => match bslA P t len ps with
    | some (e, s, pvs) => some (.trows h.length (chunk s len pvs), h ++ [.tok e s len], [])
    | none => none
  | none => none
def eStore (P : Program) (ρ : Operand → Option AV) (h : List AObj) (t : TypeId) (x y : Operand) : Option (AV × List AObj × List Nat) := match ρ x, ρ y with
  | some (.ptr i o), some v => match h[i]? with
    | some (.box bt cells) => if szA P t = some v.cells.length ∧ o + v.cells.length ≤ cells.length ∧ v.cells.all AV.isCell = true then some (.tup [], h.set i (.box bt (setAt cells o v.cells)), [i]) else none
    | _ => none
  | _, _ => none
def eCall (P : Program) (ρ : Operand → Option AV) (h : List AObj) (c : Call) : Option (AV × List AObj × List Nat) := match c with
  | ⟨.builtin .append, args, ts⟩ => match opsA ρ args.toList, ts.toList with
    | some [s, x], [t, t'] => if t = t' then match rowsOf x with
        | some es' => appendA P t s es' h
        | none => if isNilSlice x then appendA P t s [] h else none
      else none
    | _, _ => none
  | _ => none
def eopF (P : Program) (op : Op) (ρ : Operand → Option AV) (h : List AObj) : Option (AV × List AObj × List Nat) := match op with
  | .alloc t => eAlloc P h t
  | .box t x => eBox ρ h t x
  | .buildSlice t len parts => eBsl P ρ h t len parts
  | .store t x y => eStore P ρ h t x y
  | .call c => eCall P ρ h c
  | _ => none
theorem eopF_eq (P : Program) (op : Op) (ρ : Operand → Option AV) (h : List AObj) : eopF P op ρ h = eop P op ρ h := by
  cases op with
  | call c =>
    obtain ⟨f, args, ts⟩ := c
    cases f with
    | builtin b => cases b <;> rfl
    | _ => rfl
  | _ => rfl
/-! Facts about names: what an operation gives at values that are known by their names alone. -/
mutual
def openPV (R : Nat → PV) : PV → PV
  | .sym i => R i
  | .rows es => .rows (openPss R es)
  | .lit v => .lit v
  | .opq ne lo hi => .opq ne lo hi
  | .rng lo hi => .rng lo hi
  | .any => .any
def openPs (R : Nat → PV) : List PV → List PV
  | [] => []
  | p :: l => openPV R p :: openPs R l
def openPss (R : Nat → PV) : List (List PV) → List (List PV)
  | [] => []
  | l :: es => openPs R l :: openPss R es
end
theorem openPs_eq (R : Nat → PV) : ∀ l, openPs R l = l.map (openPV R)
  | [] => by rw [openPs]; rfl
  | p :: l => by rw [openPs, openPs_eq R l]; rfl
theorem openPss_eq (R : Nat → PV) : ∀ es, openPss R es = es.map (openPs R)
  | [] => by rw [openPss]; rfl
  | l :: es => by rw [openPss, openPss_eq R es]; rfl
mutual
def openAV (R : Nat → PV) : AV → AV
  | .pv p => .pv (openPV R p)
  | .trows t es => .trows t (openPss R es)
  | .tsym t i => match R i with
    | .rows es => .trows t es
    | _ => .tsym t i
  | .ptr i o => .ptr i o
  | .cptr cs => .cptr (openPs R cs)
  | .agg l => .agg (openAVs R l)
  | .tup l => .tup (openAVs R l)
  | .fn f l => .fn f (openAVs R l)
  | .sl t lo len sz => .sl t lo len sz
  | .mp t => .mp t
  | .ifc t v => .ifc t (openAV R v)
def openAVs (R : Nat → PV) : List AV → List AV
  | [] => []
  | a :: l => openAV R a :: openAVs R l
end
theorem openAVs_eq (R : Nat → PV) : ∀ l, openAVs R l = l.map (openAV R)
  | [] => by rw [openAVs]; rfl
  | p :: l => by rw [openAVs, openAVs_eq R l]; rfl
theorem PR.opened {R : Nat → PV} {M : Nat → Nat → Option Value} {p : PV} {v : Value} (h : PR R M p v) : PR R M (openPV R p) v := by
  induction h with
  | sym i v h _ => rw [openPV]; exact h
  | lit v h => rw [openPV]; exact .lit v h
  | rows es a cap g off sz us ha hn hsz hc hr ih =>
    rw [openPV, openPss_eq]
    have := PR.rows (R := R) (M := M) (es.map (openPs R)) a cap g off sz us (fun hne => ha (fun e => hne (by rw [e]; rfl))) (by simpa using hn)
      (fun i hi => by simp only [List.getElem_map, openPs_eq, List.length_map]; exact hsz i (by simpa using hi)) (fun i hi j hj => hc i (by simpa using hi) j hj)
      (fun i hi j hj => by
        simp only [List.getElem_map, openPs_eq]
        exact ih i (by simpa using hi) j (by simpa [openPs_eq] using hj))
    rwa [List.length_map] at this
  | opq ne lo hi s hne hlo hhi => rw [openPV]; exact .opq ne lo hi s hne hlo hhi
  | rng lo hi n hlo hhi => rw [openPV]; exact .rng lo hi n hlo hhi
  | any v h => rw [openPV]; exact .any v h
mutual
theorem PR.closed {R : Nat → PV} {M : Nat → Nat → Option Value} : ∀ {p : PV} {v : Value}, PR R M (openPV R p) v → PR R M p v
  | .sym i, v, h => by rw [openPV] at h; exact .sym i v h
  | .lit u, v, h => by rw [openPV] at h; exact h
  | .opq ne lo hi, v, h => by rw [openPV] at h; exact h
  | .rng lo hi, v, h => by rw [openPV] at h; exact h
  | .any, v, h => by rw [openPV] at h; exact h
  | .rows es, v, h => by
    rw [openPV, openPss_eq] at h
    have hm := PR.closedss (R := R) (M := M) es
    cases h with
    | rows _ a cap g off sz us ha hn hsz hc hr =>
      simp only [List.length_map] at hn hsz hc hr ⊢
      refine .rows es a cap g off sz us (fun hne => ha (fun e => hne (List.map_eq_nil_iff.1 e))) hn (fun i hi => ?_) hc (fun i hi j hj => ?_)
      · have := hsz i hi; simpa [openPs_eq] using this
      · have := hr i hi j (by simpa [openPs_eq] using hj)
        simp only [List.getElem_map, openPs_eq] at this
        exact hm _ (List.getElem_mem hi) _ (List.getElem_mem hj) _ this
theorem PR.closeds {R : Nat → PV} {M : Nat → Nat → Option Value} : ∀ (l : List PV), ∀ p ∈ l, ∀ v, PR R M (openPV R p) v → PR R M p v
  | [], p, hp, _, _ => by cases hp
  | q :: l, p, hp, v, h => by
    have h1 := @PR.closed R M q
    have h2 := PR.closeds (R := R) (M := M) l
    rcases List.mem_cons.1 hp with rfl | hp
    · exact h1 h
    · exact h2 p hp v h
theorem PR.closedss {R : Nat → PV} {M : Nat → Nat → Option Value} : ∀ (es : List (List PV)), ∀ l ∈ es, ∀ p ∈ l, ∀ v, PR R M (openPV R p) v → PR R M p v
  | [], l, hl, _, _, _, _ => by cases hl
  | q :: es, l, hl, p, hp, v, h => by
    have h1 := PR.closeds (R := R) (M := M) q
    have h2 := PR.closedss (R := R) (M := M) es
    rcases List.mem_cons.1 hl with rfl | hl
    · exact h1 p hp v h
    · exact h2 l hl p hp v h
end
theorem VR.opened {R : Nat → PV} {K : Kn} (hR : K.R = R) {a : AV} {v : Value} (h : VR K a v) : VR K (openAV R a) v := by
  subst hR
  induction h with
  | pv h => rw [openAV]; exact .pv h.opened
  | tsym t i es hi h _ =>
    rw [openAV, hi]; exact h
  | cptr cs g o us hc hr =>
    rw [openAV, openPs_eq]
    exact .cptr _ g o us (by simpa using hc) (fun j hj => by simpa using (hr j (by simpa using hj)).opened)
  | trows t es g us hm hn hsz hc hr =>
    rw [openAV, openPss_eq]
    have := VR.trows (K := K) t (es.map (openPs K.R)) g us hm (by simpa using hn)
      (fun i hi => by simp only [List.getElem_map, openPs_eq, List.length_map]; exact hsz i (by simpa using hi)) (fun i hi j hj => hc i (by simpa using hi) j hj)
      (fun i hi j hj => by
        simp only [List.getElem_map, openPs_eq]
        exact (hr i (by simpa using hi) j (by simpa [openPs_eq] using hj)).opened)
    rwa [List.length_map] at this
  | ptr i o g hm => rw [openAV]; exact .ptr i o g hm
  | agg l cs hl _ ih => rw [openAV, openAVs_eq]; exact .agg _ cs (by simpa using hl) (fun i hi hi' => by simpa using ih i (by simpa using hi) hi')
  | tup l cs hl _ ih => rw [openAV, openAVs_eq]; exact .tup _ cs (by simpa using hl) (fun i hi hi' => by simpa using ih i (by simpa using hi) hi')
  | fn f l cs hl _ ih => rw [openAV, openAVs_eq]; exact .fn f _ cs (by simpa using hl) (fun i hi hi' => by simpa using ih i (by simpa using hi) hi')
  | sl t lo len sz g cap off a b c d f => rw [openAV]; exact .sl t lo len sz g cap off a b c d f
  | mp t g a => rw [openAV]; exact .mp t g a
  | ifc t _ ih => rw [openAV]; exact .ifc t ih
theorem VR.trowsClosed {K : Kn} {t : Nat} {es : List (List PV)} {v : Value} (h : VR K (.trows t (openPss K.R es)) v) : VR K (.trows t es) v := by
  rw [openPss_eq] at h
  cases h with
  | trows _ _ g us hm hn hsz hc hr =>
    simp only [List.length_map] at hn hsz hc hr ⊢
    refine .trows t es g us hm hn (fun i hi => ?_) hc (fun i hi j hj => ?_)
    · have := hsz i hi; simpa [openPs_eq] using this
    · have := hr i hi j (by simpa [openPs_eq] using hj)
      simp only [List.getElem_map, openPs_eq] at this
      exact this.closed
mutual
theorem VR.closedK {K : Kn} : ∀ {a : AV} {v : Value}, VR K (openAV K.R a) v → VR K a v
  | .pv p, v, h => by rw [openAV] at h; cases h with | pv h => exact .pv h.closed
  | .tsym t i, v, h => by
    rw [openAV] at h
    split at h
    · rename_i es hi; exact .tsym t i es hi h
    · exact h
  | .trows t es, v, h => by rw [openAV] at h; exact h.trowsClosed
  | .ptr i o, v, h => by rw [openAV] at h; exact h
  | .cptr cs, v, h => by
    rw [openAV, openPs_eq] at h
    cases h with | cptr _ g o us hc hr => exact .cptr cs g o us (by simpa using hc) (fun j hj => by have := hr j (by simpa using hj); simp only [List.getElem_map] at this; exact this.closed)
  | .agg l, v, h => by
    rw [openAV, openAVs_eq] at h
    have hm := VR.closedKs (K := K) l
    cases h with | agg _ cs hl hh => exact .agg l cs (by simpa using hl) (fun i hi hi' => hm _ (List.getElem_mem hi) _ (by have := hh i (by simpa using hi) hi'; rw [List.getElem_map] at this; exact this))
  | .tup l, v, h => by
    rw [openAV, openAVs_eq] at h
    have hm := VR.closedKs (K := K) l
    cases h with | tup _ cs hl hh => exact .tup l cs (by simpa using hl) (fun i hi hi' => hm _ (List.getElem_mem hi) _ (by have := hh i (by simpa using hi) hi'; rw [List.getElem_map] at this; exact this))
  | .fn f l, v, h => by
    rw [openAV, openAVs_eq] at h
    have hm := VR.closedKs (K := K) l
    cases h with | fn _ _ cs hl hh => exact .fn f l cs (by simpa using hl) (fun i hi hi' => hm _ (List.getElem_mem hi) _ (by have := hh i (by simpa using hi) hi'; rw [List.getElem_map] at this; exact this))
  | .sl t lo len sz, v, h => by rw [openAV] at h; exact h
  | .mp t, v, h => by rw [openAV] at h; exact h
  | .ifc t x, v, h => by rw [openAV] at h; cases h with | ifc _ h => exact .ifc t (VR.closedK h)
theorem VR.closedKs {K : Kn} : ∀ (l : List AV), ∀ a ∈ l, ∀ v, VR K (openAV K.R a) v → VR K a v
  | [], a, ha, _, _ => by cases ha
  | b :: l, a, ha, v, h => by
    have h1 := @VR.closedK K b
    have h2 := VR.closedKs (K := K) l
    rcases List.mem_cons.1 ha with rfl | ha
    · exact h1 h
    · exact h2 a ha v h
end
theorem VR.closed {R : Nat → PV} {K : Kn} (hR : K.R = R) {a : AV} {v : Value} (h : VR K (openAV R a) v) : VR K a v := by
  subst hR
  exact h.closedK
inductive SF where
  | bin (b : BinOp) (t : TypeId) (u v r : AV)
  | len (t : TypeId) (u r : AV)
  | idx (t : TypeId) (u i r : AV)
  | ind (t : TypeId) (u i r : AV)
  | slc (t : TypeId) (u : AV) (lo hi : Option AV) (r : AV)
  | conv (s d : TypeId) (u r : AV)
  | un (o : UnOp) (u r : AV)
  | app (t : TypeId) (s x : AV) (j : Nat)
  | app0 (t : TypeId) (s x : AV)
  | names
  | mx (mn : Bool) (u v r : AV)
def eqV : Value → Value → Bool
  | .int k n, .int k' n' => decide (k = k') && decide (n = n')
  | .bool a, .bool b => a == b
  | .string x, .string y => eqS x y
  | .slice none 0 0, .slice none 0 0 => true
  | _, _ => false
mutual
def eqP : PV → PV → Bool
  | .sym i, .sym j => Nat.beq i j
  | .lit v, .lit v' => eqV v v'
  | .rows es, .rows es' => eqPss es es'
  | _, _ => false
def eqPs : List PV → List PV → Bool
  | [], [] => true
  | p :: l, q :: r => eqP p q && eqPs l r
  | _, _ => false
def eqPss : List (List PV) → List (List PV) → Bool
  | [], [] => true
  | p :: l, q :: r => eqPs p q && eqPss l r
  | _, _ => false
end
def eqA : AV → AV → Bool
  | .pv p, .pv q => eqP p q
  | _, _ => false
theorem eqS_eq' {x y : ByteArray} (h : eqS x y = true) : x = y := by
  have := (eqL_iff _ _).1 h
  cases x; cases y
  congr 1
  exact Array.ext' this
theorem eqV_eq {a b : Value} (h : eqV a b = true) : a = b := by
  unfold eqV at h
  split at h
  · simp only [Bool.and_eq_true, decide_eq_true_eq] at h; obtain ⟨rfl, rfl⟩ := h; rfl
  · rw [eq_of_beq h]
  · rw [eqS_eq' h]
  · rfl
  · cases h
mutual
theorem eqP_eq : ∀ {a b : PV}, eqP a b = true → a = b
  | .sym i, b, h => by cases b with | sym j => rw [eqP] at h; rw [Nat.eq_of_beq_eq_true h] | _ => simp [eqP] at h
  | .lit v, b, h => by cases b with | lit v' => rw [eqP] at h; rw [eqV_eq h] | _ => simp [eqP] at h
  | .rows es, b, h => by cases b with | rows es' => rw [eqP] at h; rw [eqPss_eq h] | _ => simp [eqP] at h
  | .opq .., b, h => by cases b <;> simp [eqP] at h
  | .rng .., b, h => by cases b <;> simp [eqP] at h
  | .any, b, h => by cases b <;> simp [eqP] at h
theorem eqPs_eq : ∀ {a b : List PV}, eqPs a b = true → a = b
  | [], [], _ => rfl
  | p :: l, q :: r, h => by
    rw [eqPs, Bool.and_eq_true] at h
    rw [eqP_eq h.1, eqPs_eq h.2]
  | [], _ :: _, h => by simp [eqPs] at h
  | _ :: _, [], h => by simp [eqPs] at h
theorem eqPss_eq : ∀ {a b : List (List PV)}, eqPss a b = true → a = b
  | [], [], _ => rfl
  | p :: l, q :: r, h => by
    rw [eqPss, Bool.and_eq_true] at h
    rw [eqPs_eq h.1, eqPss_eq h.2]
  | [], _ :: _, h => by simp [eqPss] at h
  | _ :: _, [], h => by simp [eqPss] at h
end
theorem eqA_eq {a b : AV} (h : eqA a b = true) : a = b := by
  unfold eqA at h
  split at h
  · rw [eqP_eq h]
  · cases h
/-- The plain side of a value. -/
def nrm (a : AV) : AV := match a.toPV with
  | some p => .pv p
  | none => a
theorem VR.nrm {K : Kn} {a : AV} {v : Value} (h : VR K a v) : VR K (nrm a) v := by
  unfold YtjpjcjnacnlhdaaGreat.nrm
  split
  · rename_i p hp; exact .pv (h.toPV hp)
  · exact h
def eqO : Option AV → Option AV → Bool
  | none, none => true
  | some a, some b => eqA a b
  | _, _ => false
theorem eqO_eq {a b : Option AV} (h : eqO a b = true) : a = b := by
  unfold eqO at h
  split at h
  · rfl
  · rw [eqA_eq h]
  · cases h
def MatchO (ρ : Operand → Option AV) : Option Operand → Option AV → Prop
  | none, none => True
  | some x, some a => ρ x = some a
  | _, _ => False
/-- What a row has; nil has nothing. -/
def rowsN (a : AV) : Option (List (List PV)) := if isNilSlice a then some [] else rowsOf a
def SF.ok (R : Nat → PV) (P : Program) : SF → Prop
  | .bin b t u v r => ∀ x y, binA P b t x y (openAV R u) (openAV R v) = some (openAV R r)
  | .len t u r => ∀ ty, builtinA P .len #[t] ty [openAV R u] = some (openAV R r)
  | .idx t u i r => ∃ n, intV (openAV R i) = some n ∧ indexAtA P t (openAV R u) n = some (openAV R r)
  | .ind t u i r => indexA P t (openAV R u) (openAV R i) = some (openAV R r)
  | .slc t u lo hi r => ∀ (ρ : Operand → Option AV) (l m : Option Operand), MatchO ρ l (lo.map (openAV R)) → MatchO ρ m (hi.map (openAV R)) → sliceA P t ρ (openAV R u) l m none = some (openAV R r)
  | .conv s d u r => ∃ a c, (openAV R u).val? = some a ∧ pureRun P (convert s d a) = some c ∧ ofVal c = some (openAV R r)
  | .un o u r => ∃ a c, (openAV R u).val? = some a ∧ pureRun P (Op.unary o a) = some c ∧ ofVal c = some (openAV R r)
  | .app t s x j => ∃ e sz by_ zc es es', P.underlying t = some (.slice e) ∧ szA P e = some sz ∧ bytesA P e = some by_ ∧ zeroA P e = some zc ∧ 0 < sz ∧ zc.length = sz ∧
      rowsN (openAV R s) = some es ∧ rowsOf (openAV R x) = some es' ∧ es' ≠ [] ∧ (∀ c ∈ es', c.length = sz) ∧ es.length + es'.length ≤ 1000000000000 ∧ (es.length + es'.length) * by_ ≤ 140737488355328 ∧ R j = .rows (es ++ es')
  | .app0 t s x => ∃ e sz by_ zc, P.underlying t = some (.slice e) ∧ szA P e = some sz ∧ bytesA P e = some by_ ∧ zeroA P e = some zc ∧ (rowsN (openAV R s)).isSome = true ∧ rowsN (openAV R x) = some []
  | .names => True
  | .mx mn u v r => ∀ ts ty, builtinA P (if mn then .min else .max) ts ty [openAV R u, openAV R v] = some (openAV R r)
def TabOk (R : Nat → PV) (P : Program) (tab : List SF) : Prop := ∀ f ∈ tab, f.ok R P
theorem TabOk.nil (R : Nat → PV) (P : Program) : TabOk R P [] := fun f hf => by cases hf
def lkBin (b : BinOp) (t : TypeId) (u : AV) (v : AV) : List SF → Option AV
  | [] => none
  | .bin b' t' u' v' r :: l => if decide (b = b') && decide (t = t') && eqA u u' && eqA v v' then some r else lkBin b t u v l
  | _ :: l => lkBin b t u v l
theorem lkBin_ok {R : Nat → PV} {P : Program} {b : BinOp} {t : TypeId} {u : AV} {v : AV} {r : AV} : ∀ {tab : List SF}, TabOk R P tab → lkBin b t u v tab = some r → (SF.bin b t u v r).ok R P
  | [], _, h => by cases h
  | f :: l, ht, h => by
    unfold lkBin at h
    split at h
    · cases h
    · rename_i heq
      cases heq
      split at h
      · rename_i hc
        cases h
        simp only [Bool.and_eq_true] at hc
        obtain ⟨⟨⟨e0, e1⟩, e2⟩, e3⟩ := hc
        have e0 := of_decide_eq_true e0
        have e1 := of_decide_eq_true e1
        have e2 := eqA_eq e2
        have e3 := eqA_eq e3
        subst e0
        subst e1
        subst e2
        subst e3
        exact ht _ (List.mem_cons_self ..)
      · exact lkBin_ok (fun g hg => ht g (List.mem_cons_of_mem _ hg)) h
    · rename_i heq
      cases heq
      exact lkBin_ok (fun g hg => ht g (List.mem_cons_of_mem _ hg)) h
def lkLen (t : TypeId) (u : AV) : List SF → Option AV
  | [] => none
  | .len t' u' r :: l => if decide (t = t') && eqA u u' then some r else lkLen t u l
  | _ :: l => lkLen t u l
theorem lkLen_ok {R : Nat → PV} {P : Program} {t : TypeId} {u : AV} {r : AV} : ∀ {tab : List SF}, TabOk R P tab → lkLen t u tab = some r → (SF.len t u r).ok R P
  | [], _, h => by cases h
  | f :: l, ht, h => by
    unfold lkLen at h
    split at h
    · cases h
    · rename_i heq
      cases heq
      split at h
      · rename_i hc
        cases h
        simp only [Bool.and_eq_true] at hc
        obtain ⟨e0, e1⟩ := hc
        have e0 := of_decide_eq_true e0
        have e1 := eqA_eq e1
        subst e0
        subst e1
        exact ht _ (List.mem_cons_self ..)
      · exact lkLen_ok (fun g hg => ht g (List.mem_cons_of_mem _ hg)) h
    · rename_i heq
      cases heq
      exact lkLen_ok (fun g hg => ht g (List.mem_cons_of_mem _ hg)) h
def lkMx (mn : Bool) (u v : AV) : List SF → Option AV
  | [] => none
  | .mx mn' u' v' r :: l => if decide (mn = mn') && eqA u u' && eqA v v' then some r else lkMx mn u v l
  | _ :: l => lkMx mn u v l
theorem lkMx_ok {R : Nat → PV} {P : Program} {mn : Bool} {u v : AV} {r : AV} : ∀ {tab : List SF}, TabOk R P tab → lkMx mn u v tab = some r → (SF.mx mn u v r).ok R P
  | [], _, h => by cases h
  | f :: l, ht, h => by
    unfold lkMx at h
    split at h
    · cases h
    · rename_i heq
      cases heq
      split at h
      · rename_i hc
        cases h
        simp only [Bool.and_eq_true] at hc
        obtain ⟨⟨e0, e1⟩, e2⟩ := hc
        have e0 := of_decide_eq_true e0
        have e1 := eqA_eq e1
        have e2 := eqA_eq e2
        subst e0
        subst e1
        subst e2
        exact ht _ (List.mem_cons_self ..)
      · exact lkMx_ok (fun g hg => ht g (List.mem_cons_of_mem _ hg)) h
    · rename_i heq
      cases heq
      exact lkMx_ok (fun g hg => ht g (List.mem_cons_of_mem _ hg)) h
def lkIdx (t : TypeId) (u : AV) (i : AV) : List SF → Option AV
  | [] => none
  | .idx t' u' i' r :: l => if decide (t = t') && eqA u u' && eqA i i' then some r else lkIdx t u i l
  | _ :: l => lkIdx t u i l
theorem lkIdx_ok {R : Nat → PV} {P : Program} {t : TypeId} {u : AV} {i : AV} {r : AV} : ∀ {tab : List SF}, TabOk R P tab → lkIdx t u i tab = some r → (SF.idx t u i r).ok R P
  | [], _, h => by cases h
  | f :: l, ht, h => by
    unfold lkIdx at h
    split at h
    · cases h
    · rename_i heq
      cases heq
      split at h
      · rename_i hc
        cases h
        simp only [Bool.and_eq_true] at hc
        obtain ⟨⟨e0, e1⟩, e2⟩ := hc
        have e0 := of_decide_eq_true e0
        have e1 := eqA_eq e1
        have e2 := eqA_eq e2
        subst e0
        subst e1
        subst e2
        exact ht _ (List.mem_cons_self ..)
      · exact lkIdx_ok (fun g hg => ht g (List.mem_cons_of_mem _ hg)) h
    · rename_i heq
      cases heq
      exact lkIdx_ok (fun g hg => ht g (List.mem_cons_of_mem _ hg)) h
def lkInd (t : TypeId) (u : AV) (i : AV) : List SF → Option AV
  | [] => none
  | .ind t' u' i' r :: l => if decide (t = t') && eqA u u' && eqA i i' then some r else lkInd t u i l
  | _ :: l => lkInd t u i l
theorem lkInd_ok {R : Nat → PV} {P : Program} {t : TypeId} {u : AV} {i : AV} {r : AV} : ∀ {tab : List SF}, TabOk R P tab → lkInd t u i tab = some r → (SF.ind t u i r).ok R P
  | [], _, h => by cases h
  | f :: l, ht, h => by
    unfold lkInd at h
    split at h
    · cases h
    · rename_i heq
      cases heq
      split at h
      · rename_i hc
        cases h
        simp only [Bool.and_eq_true] at hc
        obtain ⟨⟨e0, e1⟩, e2⟩ := hc
        have e0 := of_decide_eq_true e0
        have e1 := eqA_eq e1
        have e2 := eqA_eq e2
        subst e0
        subst e1
        subst e2
        exact ht _ (List.mem_cons_self ..)
      · exact lkInd_ok (fun g hg => ht g (List.mem_cons_of_mem _ hg)) h
    · rename_i heq
      cases heq
      exact lkInd_ok (fun g hg => ht g (List.mem_cons_of_mem _ hg)) h
def lkSlc (t : TypeId) (u : AV) (lo : Option AV) (hi : Option AV) : List SF → Option AV
  | [] => none
  | .slc t' u' lo' hi' r :: l => if decide (t = t') && eqA u u' && eqO lo lo' && eqO hi hi' then some r else lkSlc t u lo hi l
  | _ :: l => lkSlc t u lo hi l
theorem lkSlc_ok {R : Nat → PV} {P : Program} {t : TypeId} {u : AV} {lo : Option AV} {hi : Option AV} {r : AV} : ∀ {tab : List SF}, TabOk R P tab → lkSlc t u lo hi tab = some r → (SF.slc t u lo hi r).ok R P
  | [], _, h => by cases h
  | f :: l, ht, h => by
    unfold lkSlc at h
    split at h
    · cases h
    · rename_i heq
      cases heq
      split at h
      · rename_i hc
        cases h
        simp only [Bool.and_eq_true] at hc
        obtain ⟨⟨⟨e0, e1⟩, e2⟩, e3⟩ := hc
        have e0 := of_decide_eq_true e0
        have e1 := eqA_eq e1
        have e2 := eqO_eq e2
        have e3 := eqO_eq e3
        subst e0
        subst e1
        subst e2
        subst e3
        exact ht _ (List.mem_cons_self ..)
      · exact lkSlc_ok (fun g hg => ht g (List.mem_cons_of_mem _ hg)) h
    · rename_i heq
      cases heq
      exact lkSlc_ok (fun g hg => ht g (List.mem_cons_of_mem _ hg)) h
def lkConv (s : TypeId) (d : TypeId) (u : AV) : List SF → Option AV
  | [] => none
  | .conv s' d' u' r :: l => if decide (s = s') && decide (d = d') && eqA u u' then some r else lkConv s d u l
  | _ :: l => lkConv s d u l
theorem lkConv_ok {R : Nat → PV} {P : Program} {s : TypeId} {d : TypeId} {u : AV} {r : AV} : ∀ {tab : List SF}, TabOk R P tab → lkConv s d u tab = some r → (SF.conv s d u r).ok R P
  | [], _, h => by cases h
  | f :: l, ht, h => by
    unfold lkConv at h
    split at h
    · cases h
    · rename_i heq
      cases heq
      split at h
      · rename_i hc
        cases h
        simp only [Bool.and_eq_true] at hc
        obtain ⟨⟨e0, e1⟩, e2⟩ := hc
        have e0 := of_decide_eq_true e0
        have e1 := of_decide_eq_true e1
        have e2 := eqA_eq e2
        subst e0
        subst e1
        subst e2
        exact ht _ (List.mem_cons_self ..)
      · exact lkConv_ok (fun g hg => ht g (List.mem_cons_of_mem _ hg)) h
    · rename_i heq
      cases heq
      exact lkConv_ok (fun g hg => ht g (List.mem_cons_of_mem _ hg)) h
def lkUn (o : UnOp) (u : AV) : List SF → Option AV
  | [] => none
  | .un o' u' r :: l => if decide (o = o') && eqA u u' then some r else lkUn o u l
  | _ :: l => lkUn o u l
theorem lkUn_ok {R : Nat → PV} {P : Program} {o : UnOp} {u : AV} {r : AV} : ∀ {tab : List SF}, TabOk R P tab → lkUn o u tab = some r → (SF.un o u r).ok R P
  | [], _, h => by cases h
  | f :: l, ht, h => by
    unfold lkUn at h
    split at h
    · cases h
    · rename_i heq
      cases heq
      split at h
      · rename_i hc
        cases h
        simp only [Bool.and_eq_true] at hc
        obtain ⟨e0, e1⟩ := hc
        have e0 := of_decide_eq_true e0
        have e1 := eqA_eq e1
        subst e0
        subst e1
        exact ht _ (List.mem_cons_self ..)
      · exact lkUn_ok (fun g hg => ht g (List.mem_cons_of_mem _ hg)) h
    · rename_i heq
      cases heq
      exact lkUn_ok (fun g hg => ht g (List.mem_cons_of_mem _ hg)) h
def qLen (tab : List SF) (ρ : Operand → Option AV) (args : List Operand) (ts : List TypeId) : Option AV := match args, ts with
  | [x], [t] => match ρ x with
    | some u => lkLen t u tab
    | none => none
  | _, _ => none
def qMx (mn : Bool) (tab : List SF) (ρ : Operand → Option AV) (args : List Operand) : Option AV := match args with
  | [x, y] => match ρ x, ρ y with
    | some u, some v => lkMx mn u v tab
    | _, _ => none
  | _ => none
def oneO (ρ : Operand → Option AV) : Option Operand → Option (Option AV)
  | none => some none
  | some x => (ρ x).map some
def qSlc (tab : List SF) (ρ : Operand → Option AV) (t : TypeId) (x : Operand) (lo hi mx : Option Operand) : Option AV := match mx with
  | none => match ρ x, oneO ρ lo, oneO ρ hi with
    | some u, some l, some r => lkSlc t u l r tab
    | _, _, _ => none
  | some _ => none
def two (ρ : Operand → Option AV) (x y : Operand) (f : AV → AV → Option AV) : Option AV := match ρ x, ρ y with
  | some u, some v => f u v
  | _, _ => none
def qTab (tab : List SF) (op : Op) (ρ : Operand → Option AV) : Option AV := match op with
  | .binOp b t x y _ => two ρ x y fun u v => lkBin b t u v tab
  | .indexAddr t x i => two ρ x i fun u v => lkIdx t u v tab
  | .index t x i => two ρ x i fun u v => lkInd t u v tab
  | .unOp u _ x => match ρ x with
    | some v => lkUn u v tab
    | none => none
  | .convert s d x => match ρ x with
    | some v => lkConv s d v tab
    | none => none
  | .slice t x lo hi mx => qSlc tab ρ t x lo hi mx
  | .call ⟨.builtin .len, args, ts⟩ => qLen tab ρ args.toList ts.toList
  | .call ⟨.builtin .max, args, _⟩ => qMx false tab ρ args.toList
  | .call ⟨.builtin .min, args, _⟩ => qMx true tab ρ args.toList
  | _ => none
theorem two_some {ρ : Operand → Option AV} {x y : Operand} {f : AV → AV → Option AV} {r : AV} (h : two ρ x y f = some r) : ∃ u v, ρ x = some u ∧ ρ y = some v ∧ f u v = some r := by
  unfold two at h
  split at h
  · rename_i u v hu hv; exact ⟨u, v, hu, hv, h⟩
  · cases h
theorem oneO_match {R : Nat → PV} {ρ : Operand → Option AV} {x : Option Operand} {a : Option AV} (h : oneO ρ x = some a) : MatchO (fun x => (ρ x).map (openAV R)) x (a.map (openAV R)) := by
  cases x with
  | none => cases h; trivial
  | some x =>
    obtain ⟨v, hv, e⟩ := map_some' h
    subst e
    show (ρ x).map (openAV R) = some (openAV R v)
    rw [hv]; rfl
theorem qTab_qop {R : Nat → PV} {P : Program} {tab : List SF} (ht : TabOk R P tab) {op : Op} {ty : TypeId} {ρ : Operand → Option AV} {h : List AObj} {r : AV} (hq : qTab tab op ρ = some r) :
    qopF P op ty (fun x => (ρ x).map (openAV R)) h = some (openAV R r, none) := by
  unfold qTab at hq
  split at hq
  · obtain ⟨u, v, hu, hv, hf⟩ := two_some hq
    have := lkBin_ok ht hf
    simp only [qopF, qBin, hu, hv, Option.map_some, this _ _]
  · obtain ⟨u, v, hu, hv, hf⟩ := two_some hq
    obtain ⟨n, hn, hi⟩ := lkIdx_ok ht hf
    simp only [qopF, qIA, hu, hv, Option.map_some, hn, hi]
  · obtain ⟨u, v, hu, hv, hf⟩ := two_some hq
    have := lkInd_ok ht hf
    simp only [SF.ok] at this
    simp only [qopF, qIndex, hu, hv, Option.map_some, this]
  · split at hq
    · rename_i v hv
      obtain ⟨a, c, h1, h2, h3⟩ := lkUn_ok ht hq
      simp only [qopF, qUn, hv, Option.map_some, h1, h2, h3]
    · cases hq
  · split at hq
    · rename_i v hv
      obtain ⟨a, c, h1, h2, h3⟩ := lkConv_ok ht hq
      simp only [qopF, qConv, hv, Option.map_some, h1, h2, h3]
    · cases hq
  · unfold qSlc at hq
    split at hq
    · split at hq
      · rename_i u l m hu hl hm
        have := lkSlc_ok ht hq _ _ _ (oneO_match hl) (oneO_match hm)
        simp only [qopF, qSlice, hu, Option.map_some, this]
      · cases hq
    · cases hq
  · rename_i args ts
    unfold qLen at hq
    split at hq
    · rename_i x t ha hts
      split at hq
      · rename_i u hu
        have := lkLen_ok ht hq ty
        have e : ts = #[t] := by apply Array.ext'; rw [hts]
        subst e
        simp only [qopF, qCall, ha, opsA, hu, Option.map_some, this]
      · cases hq
    · cases hq
  · rename_i args ts
    unfold qMx at hq
    split at hq
    · rename_i x y ha
      split at hq
      · rename_i u v hu hv
        have := lkMx_ok ht hq ts ty
        simp only [Bool.false_eq_true, if_false] at this
        simp only [qopF, qCall, ha, opsA, hu, hv, Option.map_some, this]
      · cases hq
    · cases hq
  · rename_i args ts
    unfold qMx at hq
    split at hq
    · rename_i x y ha
      split at hq
      · rename_i u v hu hv
        have := lkMx_ok ht hq ts ty
        simp only [if_true] at this
        simp only [qopF, qCall, ha, opsA, hu, hv, Option.map_some, this]
      · cases hq
    · cases hq
  · cases hq
def lkApp (t : TypeId) (s x : AV) : List SF → Option (Option Nat)
  | [] => none
  | .app t' s' x' j :: l => if decide (t = t') && eqA s s' && eqA x x' then some (some j) else lkApp t s x l
  | .app0 t' s' x' :: l => if decide (t = t') && eqA s s' && eqA x x' then some none else lkApp t s x l
  | _ :: l => lkApp t s x l
def appOk (R : Nat → PV) (P : Program) (t : TypeId) (s x : AV) : Option Nat → Prop
  | some j => (SF.app t s x j).ok R P
  | none => (SF.app0 t s x).ok R P
theorem lkApp_ok {R : Nat → PV} {P : Program} {t : TypeId} {s x : AV} {r : Option Nat} : ∀ {tab : List SF}, TabOk R P tab → lkApp t s x tab = some r → appOk R P t s x r
  | [], _, h => by cases h
  | f :: l, ht, h => by
    unfold lkApp at h
    split at h
    · cases h
    · rename_i heq
      cases heq
      split at h
      · rename_i hc
        cases h
        simp only [Bool.and_eq_true] at hc
        obtain ⟨⟨e0, e1⟩, e2⟩ := hc
        have e0 := of_decide_eq_true e0
        have e1 := eqA_eq e1
        have e2 := eqA_eq e2
        subst e0
        subst e1
        subst e2
        exact ht _ (List.mem_cons_self ..)
      · exact lkApp_ok (fun g hg => ht g (List.mem_cons_of_mem _ hg)) h
    · rename_i heq
      cases heq
      split at h
      · rename_i hc
        cases h
        simp only [Bool.and_eq_true] at hc
        obtain ⟨⟨e0, e1⟩, e2⟩ := hc
        have e0 := of_decide_eq_true e0
        have e1 := eqA_eq e1
        have e2 := eqA_eq e2
        subst e0
        subst e1
        subst e2
        exact ht _ (List.mem_cons_self ..)
      · exact lkApp_ok (fun g hg => ht g (List.mem_cons_of_mem _ hg)) h
    · rename_i heq
      cases heq
      exact lkApp_ok (fun g hg => ht g (List.mem_cons_of_mem _ hg)) h
def tokOf : AV → Option (Nat × Nat)
  | .tsym tk i => some (tk, symBase + i)
  | .trows tk es => some (tk, es.length)
  | _ => none
def appS (tab : List SF) (P : Program) (t : TypeId) (s x : AV) (h : List AObj) : Option (AV × List AObj × List Nat) := match lkApp t (nrm s) (nrm x) tab with
  | some (some j) => match P.underlying t with
    | some (.slice e) => match szA P e with
      | some sz => match tokOf s with
        | some (tk, lc) => match h[tk]? with
          | some (.tok e' sz' lc') => if e' = e ∧ sz' = sz ∧ lc' = lc then some (.tsym h.length j, h.set tk .dead ++ [.tok e sz (symBase + j)], [tk]) else none
          | _ => none
        | none => if isNilSlice s then some (.tsym h.length j, h ++ [.tok e sz (symBase + j)], []) else none
      | none => none
    | _ => none
  | some none => some (s, h, [])
  | none => none
def eTab (tab : List SF) (P : Program) (op : Op) (ρ : Operand → Option AV) (h : List AObj) : Option (AV × List AObj × List Nat) := match op with
  | .call ⟨.builtin .append, args, ts⟩ => match opsA ρ args.toList, ts.toList with
    | some [s, x], [t, t'] => if t = t' then appS tab P t s x h else none
    | _, _ => none
  | _ => none
def qopX (tab : List SF) (P : Program) (op : Op) (ty : TypeId) (ρ : Operand → Option AV) (h : List AObj) : Option (AV × Option Nat) := match qopF P op ty ρ h with
  | some r => some r
  | none => match qopM P op ρ h with
   | some r => some r
   | none => match qTab tab op (fun x => (ρ x).map nrm) with
    | some v => some (v, none)
    | none => none
def isAppend : Op → Bool
  | .call ⟨.builtin .append, _, _⟩ => true
  | _ => false
def namesIn : List SF → Bool
  | [] => false
  | .names :: _ => true
  | _ :: l => namesIn l
def eopN (tab : List SF) (P : Program) (op : Op) (ρ : Operand → Option AV) (h : List AObj) : Option (AV × List AObj × List Nat) := match isAppend op && namesIn tab with
  | true => none
  | false => eopM P op ρ h
def eopX (tab : List SF) (P : Program) (op : Op) (ρ : Operand → Option AV) (h : List AObj) : Option (AV × List AObj × List Nat) := match eopN tab P op ρ h with
  | some r => some r
  | none => match eopF P op ρ h with
    | some r => some r
    | none => match eopB P op ρ h with
      | some r => some r
      | none => eTab tab P op ρ h
theorem qopX_sound {R : Nat → PV} {P : Program} {tab : List SF} (ht : TabOk R P tab) {o : Oper} {ρ : Operand → Value} {ρA : Operand → Option AV} {K : Kn} {h : List AObj} {w : World} (hR : K.R = R) (H : WR K h w) (hρ : ∀ x v, ρA x = some v → VR K v (ρ x)) {v : AV} {dep : Option Nat}
    (hq : qopX tab P o.op o.type ρA h = some (v, dep)) : Yld P o ρ K w v dep := by
  unfold qopX at hq
  split at hq
  · rename_i r hr
    cases hq
    rw [qopF_eq] at hr
    exact qop_sound H hρ hr
  · split at hq
    · rename_i r hr
      cases hq
      exact qopM_sound H hρ hr
    split at hq
    · rename_i v' hv
      cases hq
      have h1 := qTab_qop (ty := o.type) (h := h) ht hv
      rw [qopF_eq] at h1
      obtain ⟨u, hu, hy⟩ := qop_sound (o := o) (ρ := ρ) H (fun x a hx => by
        obtain ⟨b, hb, e⟩ := map_some' hx
        obtain ⟨c, hc, e'⟩ := map_some' hb
        subst e
        subst e'
        exact (hρ x c hc).nrm.opened hR) h1
      exact ⟨u, hu.closed hR, hy⟩
    · cases hq
theorem rowsN_rows {R : Nat → PV} {K : Kn} (hR : K.R = R) {a : AV} {v : Value} (h : VR K a v) {es : List (List PV)} (hr : rowsN (openAV R (nrm a)) = some es) : PR K.R K.M (.rows es) v ∨ (es = [] ∧ v = .slice none 0 0) := by
  have h1 := h.nrm.opened hR
  unfold rowsN at hr
  split at hr
  · rename_i hn
    cases hr
    exact .inr ⟨rfl, isNil_sound h1 hn⟩
  · exact .inl (rowsOf_sound h1 hr)
theorem rowsOf_rows {R : Nat → PV} {K : Kn} (hR : K.R = R) {a : AV} {v : Value} (h : VR K a v) {es : List (List PV)} (hr : rowsOf (openAV R (nrm a)) = some es) : PR K.R K.M (.rows es) v := rowsOf_sound (h.nrm.opened hR) hr
theorem Eff.closed {R : Nat → PV} {P : Program} {o : Oper} {ρ : Operand → Value} {K : Kn} {h : List AObj} {w : World} {v v' : AV} {h' : List AObj} {touch : List Nat} (hR : K.R = R) (hv : ∀ K' u, K'.R = R → VR K' v u → VR K' v' u) (H : Eff P o ρ K h w v h' touch) : Eff P o ρ K h w v' h' touch := by
  obtain ⟨n, u, w', K', h1, h2, h3, h4, h5⟩ := H
  exact ⟨n, u, w', K', h1, h2, hv K' u (h4.ext.R.trans hR) h3, h4, h5⟩
theorem tokOf_spec {R : Nat → PV} {K : Kn} (hR : K.R = R) {s : AV} {v : Value} {tk lc : Nat} (h : VR K s v) (ht : tokOf s = some (tk, lc)) {es : List (List PV)} (hr : rowsN (openAV R (nrm s)) = some es) : VR K (.trows tk es) v ∧ (lc < symBase ∨ True) ∧ (es.length < symBase → dl R lc = es.length) := by
  unfold tokOf at ht
  split at ht
  · rename_i tk' i
    cases ht
    cases h with
    | tsym _ _ es0 hi h =>
      subst hR
      have e : rowsN (.pv (K.R i)) = some es := by simpa [YtjpjcjnacnlhdaaGreat.nrm, AV.toPV, openAV, openPV] using hr
      rw [hi] at e
      have e2 : es0 = es := by simpa [rowsN, isNilSlice, rowsOf] using e
      subst e2
      exact ⟨h, .inr trivial, fun _ => dl_sym hi⟩
  · rename_i tk' es0
    cases ht
    have e : rowsN (.pv (.rows (openPss R es0))) = some es := by simpa [YtjpjcjnacnlhdaaGreat.nrm, AV.toPV, openAV, openPV] using hr
    have e2 : openPss R es0 = es := by simpa [rowsN, isNilSlice, rowsOf] using e
    subst e2
    have ho := h.opened hR
    rw [openAV] at ho
    have hlen : (openPss R es0).length = es0.length := by rw [openPss_eq, List.length_map]
    exact ⟨ho, .inr trivial, fun hl => by rw [hlen] at hl ⊢; exact dl_small hl⟩
  · cases ht
theorem isNil_eq {a : AV} (h : isNilSlice a = true) : a = .pv (.lit (.slice none 0 0)) := by
  unfold isNilSlice at h
  split at h
  · rfl
  · cases h
theorem appS_sound {R : Nat → PV} {P : Program} {tab : List SF} (ht : TabOk R P tab) {o : Oper} {ρ : Operand → Value} {K : Kn} {h : List AObj} {w : World} (hR : K.R = R) (H : WR K h w)
    {args : Array Operand} {s x : Operand} (ha : args.toList = [s, x]) {t : TypeId} {ts : Array TypeId} (hts : ts.toList = [t, t]) (ho : o.op = .call ⟨.builtin .append, args, ts⟩)
    {sA xA : AV} (hs : VR K sA (ρ s)) (hx : VR K xA (ρ x)) {v : AV} {h' : List AObj} {touch : List Nat} (hq : appS tab P t sA xA h = some (v, h', touch)) : Eff P o ρ K h w v h' touch := by
  unfold appS at hq
  split at hq
  · rename_i j hl
    obtain ⟨e, sz, by_, zc, es, es', h1, h2, h3, h4, h5, h6, h7, h8, h9, h10, h11, h12, h13⟩ := lkApp_ok ht hl
    rw [h1] at hq
    simp only [h2] at hq
    obtain ⟨c0, cs0, rfl⟩ : ∃ c0 cs0, es' = c0 :: cs0 := by cases es' with | nil => exact absurd rfl h9 | cons a b => exact ⟨a, b, rfl⟩
    have hx' := rowsOf_rows hR hx h8
    have hall : (c0 :: cs0).all (fun c => c.length == sz) = true := by rw [List.all_eq_true]; intro c hc; simpa using h10 c hc
    split at hq
    · rename_i tk lc htk
      obtain ⟨hv, _, hdl⟩ := tokOf_spec hR hs htk h7
      split at hq
      · rename_i e' sz' lc' hh
        split at hq
        · rename_i hc
          obtain ⟨rfl, rfl, rfl⟩ := hc
          cases hq
          have hd : dl R lc' = es.length := hdl (by unfold symBase; omega)
          have hg : appendG (dl R) (fun _ => symBase + j) P t (.trows tk es) (c0 :: cs0) h = some (.trows h.length (es ++ c0 :: cs0), h.set tk .dead ++ [.tok e' sz' (symBase + j)], [tk]) := by
            unfold appendG
            simp only [h1, h2, h3, h4]
            rw [if_pos ⟨h5, h6, hall⟩]
            simp only [hh]
            rw [if_pos ⟨trivial, trivial, hd.symm, by rw [hd]; exact h11, by rw [hd]; exact h12⟩]
          refine Eff.closed hR (fun K' u hK hu => .tsym _ j _ (by rw [hK]; exact h13) hu) (appendG_sound H ha hts ho hv (.inl hx') hg (fun n _ => by rw [hR]) (fun es2 h2 _ => ?_) (fun hn => by cases hn))
          cases h2
          rw [hR, dl_sym h13, List.length_append]
        · cases hq
      · cases hq
    · split at hq
      · rename_i hn
        cases hq
        have he := isNil_eq hn
        subst he
        have hes : es = [] := by
          have e : rowsN (.pv (.lit (.slice none 0 0))) = some es := by simpa [YtjpjcjnacnlhdaaGreat.nrm, AV.toPV, openAV, openPV] using h7
          simpa [rowsN, isNilSlice] using e.symm
        subst hes
        have hg : appendG (dl R) (fun _ => symBase + j) P t (.pv (.lit (.slice none 0 0))) (c0 :: cs0) h = some (.trows h.length (c0 :: cs0), h ++ [.tok e sz (symBase + j)], []) := by
          unfold appendG
          simp only [h1, h2, h3, h4]
          rw [if_pos ⟨h5, h6, hall⟩]
          rw [if_pos ⟨rfl, by simpa using h11, by simpa using h12⟩]
        refine Eff.closed hR (fun K' u hK hu => .tsym _ j _ (by rw [hK]; exact h13) hu) (appendG_sound H ha hts ho hs (.inl hx') hg (fun n _ => by rw [hR]) (fun es2 h2 _ => ?_) (fun _ _ => ?_))
        · cases h2
        · rw [hR, dl_sym h13]; rfl
      · cases hq
  · rename_i hl
    cases hq
    obtain ⟨e, sz, by_, zc, h1, h2, h3, h4, h5, h6⟩ := lkApp_ok ht hl
    obtain ⟨es, hes⟩ := Option.isSome_iff_exists.1 h5
    have hx' := rowsN_rows hR hx h6
    have hs' := rowsN_rows hR hs hes
    obtain ⟨i, z, hi, _, _⟩ := zeroA_sound (K := K) h4
    obtain ⟨base, n, cap, hse, hn⟩ : ∃ base n cap, ρ s = .slice base n cap ∧ n ≤ cap := by
      rcases hs' with hs' | ⟨_, hs'⟩
      · generalize ρ s = sv at hs'
        cases hs' with
        | rows _ a cap g off sz us ha hn _ _ _ => exact ⟨a, _, cap, rfl, hn⟩
      · exact ⟨none, 0, 0, hs', Nat.le_refl _⟩
    obtain ⟨a, c, hxe⟩ : ∃ a c, ρ x = .slice a 0 c := by
      rcases hx' with hx' | ⟨_, hx'⟩
      · generalize ρ x = xv at hx'
        cases hx' with
        | rows _ a cap g off sz us ha hn _ _ _ => exact ⟨a, cap, rfl⟩
      · exact ⟨none, 0, hx'⟩
    refine ⟨_, ρ s, w, K, exec_append ha hts ho (v := ρ s) ?_, .inl rfl, hs, Step.refl H, Frm.refl _ _⟩
    rw [hse, hxe]
    exact run_append_none t o.type e i h1 hi base a n cap c hn w
  · cases hq
theorem eopX_sound {R : Nat → PV} {P : Program} {tab : List SF} (ht : TabOk R P tab) {o : Oper} {ρ : Operand → Value} {ρA : Operand → Option AV} {K : Kn} {h : List AObj} {w : World} (hR : K.R = R) (H : WR K h w) (hρ : ∀ x v, ρA x = some v → VR K v (ρ x)) {v : AV} {h' : List AObj} {touch : List Nat}
    (hq : eopX tab P o.op ρA h = some (v, h', touch)) : Eff P o ρ K h w v h' touch := by
  unfold eopX at hq
  split at hq
  · rename_i r hr
    cases hq
    unfold eopN at hr
    split at hr
    · cases hr
    · exact eopM_sound H hρ hr
  split at hq
  · rename_i r hr
    cases hq
    rw [eopF_eq] at hr
    exact eop_sound H hρ hr
  split at hq
  · rename_i r hr
    cases hq
    exact eopB_sound H hρ hr
  · unfold eTab at hq
    split at hq
    · rename_i args ts ho
      split at hq
      · rename_i s x t t' hop hts
        split at hq
        · rename_i e
          subst e
          obtain ⟨so, xo, hargs⟩ : ∃ so xo, args.toList = [so, xo] := by
            have := (opsA_sound hρ _ _ hop).1
            match hargs : args.toList with
            | [] => rw [hargs] at this; simp at this
            | [_] => rw [hargs] at this; simp at this
            | [a, b] => exact ⟨a, b, rfl⟩
            | _ :: _ :: _ :: _ => rw [hargs] at this; simp at this
          have hv := opsA_sound hρ _ _ hop
          rw [hargs] at hv
          exact appS_sound ht hR H hargs hts ho (hv.2 0 (by simp) (by simp)) (hv.2 1 (by simp) (by simp)) hq
        · cases hq
      · cases hq
    · cases hq
/-- One operation: its value, the heap, what it has touched, what it has read. -/
def noPan (r : AV × List AObj × List Nat) : Option (AV × List AObj × List Nat) := match panOf r.1 with
  | none => some r
  | some _ => none
theorem noPan_some {r r' : AV × List AObj × List Nat} (h : noPan r = some r') : r = r' ∧ panOf r'.1 = none := by
  unfold noPan at h
  split at h
  · rename_i hn; cases h; exact ⟨rfl, hn⟩
  · cases h
/-- A panic that is raised here: its value. -/
def panicA (ρ : Operand → Option AV) : Op → Option AV
  | .panic x => match ρ x with
    | some (.ifc t v) => some (.ifc t v)
    | _ => none
  | _ => none
def actA (P : Program) (call : Nat → List AV → List AObj → Option (AV × List AObj)) (okf : Nat → Bool) (tab : List SF) (o : Oper) (sl : Env) (h : List AObj) : Option (AV × List AObj × List Nat) :=
  match qopX tab P o.op o.type (aev sl) h with
  | some (v, _) => noPan (v, h, [])
  | none => match eopX tab P o.op (aev sl) h with
    | some r => noPan r
    | none => match callee (aev sl) o.op with
      | some (g, args) => if okf g then doCall call g args h else none
      | none => match panicA (aev sl) o.op with
        | some x => some (.tup [.tup [], x], h, [])
        | none => none
def putA (n : Nat) (sl : Env) (d : Option Tmp) (v : AV) : Env := match d with
  | some d => match Nat.blt d n with
    | true => (d, v) :: sl
    | false => []
  | none => sl
theorem putA_sound {K : Kn} {n : Nat} {sl : Env} {a : Act} (h : EnvOk K n sl a.tmps) {v : AV} {u : Value} (hv : VR K v u) (d : Option Tmp) : EnvOk K n (putA n sl d v) (a.put d u).tmps ∧ (a.put d u).defers = a.defers := by
  cases d with
  | none => exact ⟨h, rfl⟩
  | some d =>
    refine ⟨?_, rfl⟩
    show EnvOk K n (match Nat.blt d n with | true => (d, v) :: sl | false => []) (a.tmps.setIfInBounds d u)
    cases hb : Nat.blt d n with
    | false => exact ⟨by simpa using h.1, fun d v hd => by cases hd⟩
    | true =>
      have hlt : (d : Nat) < n := Nat.le_of_ble_eq_true hb
      have hlt' : (d : Nat) < a.tmps.size := Nat.lt_of_lt_of_le hlt h.1
      refine ⟨by simpa using h.1, fun k x hk => ?_⟩
      simp only [look] at hk
      cases hq : Nat.beq d k with
      | true =>
        rw [hq] at hk
        cases hk
        have e : (d : Nat) = k := Nat.eq_of_beq_eq_true hq
        subst e
        have : (a.tmps.setIfInBounds d u).getD d Go.undef = u := by simp [Array.getD, hlt']
        rw [this]; exact hv
      | false =>
        rw [hq] at hk
        have e : (d : Nat) ≠ k := Nat.ne_of_beq_eq_false hq
        have : (a.tmps.setIfInBounds d u).getD k Go.undef = a.tmps.getD k Go.undef := by
          simp only [Array.getD_eq_getD_getElem?]
          rw [Array.getElem?_setIfInBounds_ne e]
        rw [this]; exact h.2 k x hk
inductive AExit where
  | normal
  | exit (id : Nat)
  | ret
  | pan
def AExit.out : AExit → Exit
  | .normal => .normal
  | .exit id => .exit id
  | .ret => .ret
  | .pan => .outgrown
/-- The slots behind a panic: its value stands behind them all. -/
def panT (n : Nat) (tm : Array Value) (u : Value) : Array Value := if n < tm.size then tm.setIfInBounds n u else tm.push u
theorem panT_size {n : Nat} {tm : Array Value} {u : Value} (h : n ≤ tm.size) : n ≤ (panT n tm u).size := by
  unfold panT
  split <;> simp <;> omega
theorem panT_at {n : Nat} {tm : Array Value} {u : Value} (h : n ≤ tm.size) : (panT n tm u).getD n Go.undef = u := by
  unfold panT
  split
  · rename_i hl; simp [Array.getD, hl]
  · rename_i hl
    have : tm.size = n := by omega
    subst this
    simp [Array.getD]
theorem panT_ne {n k : Nat} {tm : Array Value} {u : Value} (h : n ≤ tm.size) (hk : n ≠ k) : (panT n tm u).getD k Go.undef = tm.getD k Go.undef := by
  unfold panT
  split
  · simp only [Array.getD_eq_getD_getElem?]
    rw [Array.getElem?_setIfInBounds_ne hk]
  · have : tm.size = n := by omega
    subst this
    simp only [Array.getD_eq_getD_getElem?]
    by_cases hlt : k < tm.size
    · rw [Array.getElem?_push_lt hlt, Array.getElem?_eq_getElem hlt]
    · rw [Array.getElem?_eq_none (by simp; omega), Array.getElem?_eq_none (by omega)]
/-- What a piece of code ends with; the slots, or these and the panic's value. -/
def OutIs (n : Nat) (ex : AExit) (e : Exit) (a' : Act) (tm : Array Value) : Prop := match ex with
  | .pan => n ≤ a'.tmps.size ∧ ∃ u, e = .panic [{ v := u, recovered := false }] ∧ tm = panT n a'.tmps u
  | ex => e = ex.out ∧ tm = a'.tmps
/-- Only some slots are kept in sight. -/
def keepE : List Nat → Env → Env
  | [], _ => []
  | d :: ks, e => match look e d with
    | some v => (d, v) :: keepE ks e
    | none => keepE ks e
theorem keepE_look {e : Env} {d : Nat} {v : AV} : ∀ {ks : List Nat}, look (keepE ks e) d = some v → look e d = some v
  | [], h => by cases h
  | k :: ks, h => by
    rw [keepE] at h
    split at h
    · rename_i x hx
      simp only [look] at h
      split at h
      · rename_i hb
        cases h
        rw [← Nat.eq_of_beq_eq_true hb]; exact hx
      · exact keepE_look h
    · exact keepE_look h
theorem EnvOk.keep {K : Kn} {n : Nat} {e : Env} {tm : Array Value} (h : EnvOk K n e tm) (ks : List Nat) : EnvOk K n (keepE ks e) tm := ⟨h.1, fun d v hd => h.2 d v (keepE_look hd)⟩
def panE (n : Nat) (rs : List Nat) (sl : Env) (x : AV) : Env := (n, x) :: keepE rs sl
theorem panE_sound {K : Kn} {n : Nat} {rs : List Nat} {sl : Env} {tm : Array Value} {x : AV} {u : Value} (h : EnvOk K n sl tm) (hx : VR K x u) : EnvOk K n (panE n rs sl x) (panT n tm u) := by
  refine ⟨panT_size h.1, fun d v hd => ?_⟩
  simp only [panE, look] at hd
  cases hb : Nat.beq n d with
  | true =>
    rw [hb] at hd
    cases hd
    rw [← Nat.eq_of_beq_eq_true hb, panT_at h.1]; exact hx
  | false =>
    rw [hb] at hd
    rw [panT_ne h.1 (Nat.ne_of_beq_eq_false hb)]
    exact h.2 d v (keepE_look hd)
def wantA (ops : Array Oper) (sl : Env) (o : Oper) : Option Bool := match o.guard with
  | none => some true
  | some (j, b) => match (ops[j]?).bind (·.dst) with
    | some d => match look sl d with
      | some (.pv (.lit (.bool c))) => some (c == b)
      | some (.tup []) => some false
      | _ => none
    | none => none
theorem wantA_sound {K : Kn} {n : Nat} {ops : Array Oper} {sl : Env} {a : Act} (h : EnvOk K n sl a.tmps) {o : Oper} {b : Bool} (hw : wantA ops sl o = some b) : Region.wanted o (yielded ops a.tmps) = b := by
  unfold wantA at hw
  unfold Region.wanted
  cases hg : o.guard with
  | none => rw [hg] at hw; cases hw; rfl
  | some p =>
    obtain ⟨j, c⟩ := p
    rw [hg] at hw
    simp only at hw ⊢
    cases hd : (ops[j]?).bind (·.dst) with
    | none => rw [hd] at hw; cases hw
    | some d =>
      rw [hd] at hw
      simp only at hw
      have key : ∀ x : Value, a.tmps.getD d Go.undef = x → (yielded ops a.tmps j == some c) = (match x with | .bool e => e == c | _ => false) := by
        intro x hx
        unfold yielded
        rw [hd]
        simp only [Option.bind_some]
        by_cases hlt : d < a.tmps.size
        · have e1 : a.tmps[d]? = some a.tmps[d] := Array.getElem?_eq_getElem hlt
          have e2 : a.tmps[d] = x := by simpa [Array.getD, hlt] using hx
          rw [e1, e2]
          cases x <;> simp
        · have e1 : a.tmps[d]? = none := Array.getElem?_eq_none (Nat.le_of_not_lt hlt)
          have e2 : x = Go.undef := by rw [← hx]; simp [Array.getD, hlt]
          rw [e1, e2]
          simp [Go.undef]
      split at hw
      · rename_i e he
        cases hw
        have hs := h.2 d _ he
        rw [key _ (val_eq hs rfl)]
      · rename_i he
        cases hw
        have hs := h.2 d _ he
        generalize hx : a.tmps.getD d Go.undef = x at hs
        cases hs with
        | tup _ cs hl _ =>
          rw [key _ hx]
      · cases hw

section
variable {P : Program} {call : Nat → List AV → List AObj → Option (AV × List AObj)} {okf : Nat → Bool} {tab : List SF} {R : Nat → PV} {ops : Array Oper} {Q : Exit → Act → World → Prop}

/-- One operation, in the walk. -/
theorem actA_sound (hcall : CallsOk R P call) (htab : TabOk R P tab) (hok : ∀ f, okf f = true → callable P f = true) {n : Nat} {o : Oper} {sl : Env} {h : List AObj} {v : AV} {h' : List AObj} {touch : List Nat} (ha : actA P call okf tab o sl h = some (v, h', touch))
    {K : Kn} {w : World} {a : Act} (hR : K.R = R) (H : WR K h w) (hs : EnvOk K n sl a.tmps) {next : Act → World → Prop}
    (hn : ∀ K' w' u, panOf v = none → VR K' v u → Step K h w K' h' w' → Frm (K.at h touch) w w' → next (a.put o.dst u) w')
    (hp : ∀ x K' w' u, panOf v = some x → VR K' x u → Step K h w K' h' w' → Q (.panic [{ v := u, recovered := false }]) a w') : o.wp P a w next Q := by
  have hρ : ∀ x v, aev sl x = some v → VR K v (a.eval x) := fun x v hx => aev_sound hs hx
  unfold actA at ha
  split at ha
  · rename_i v' d hq
    obtain ⟨e1, e2⟩ := noPan_some ha
    cases e1
    obtain ⟨u, hu, hr⟩ := qopX_sound (o := o) (ρ := a.eval) htab hR H hρ hq
    have := hr w H.agr (fun _ _ _ _ => rfl)
    unfold Oper.wp
    rw [this]
    exact hn K w u e2 hu (Step.refl H) (Frm.refl _ _)
  · split at ha
    · rename_i r he
      obtain ⟨e1, e2⟩ := noPan_some ha
      subst e1
      obtain ⟨n, u, w', K', hrun, hnu, hv, hst, hf⟩ := eopX_sound (o := o) (ρ := a.eval) htab hR H hρ he
      unfold Oper.wp
      rw [hrun]
      rcases hnu with rfl | ⟨rfl, rfl⟩
      · exact hn K' w' u e2 hv hst hf
      · exact hn K' w' _ e2 hv hst hf
    · split at ha
      · rename_i g args hc
        split at ha
        · rename_i hg
          obtain ⟨hs0, args', v0, hs', h1, h2, h3, h4, h5, h6⟩ := doCall_spec ha (fun hr => renL_none _ args hr)
          -- the operation enters the callee
          have hex : ∃ us : List Value, VL K args us ∧ (execOp a.eval o).run P w = .ok (.enter g us.toArray) w := by
            unfold callee at hc
            split at hc
            · rename_i f as ts ho
              split at hc
              · rename_i g' caps vs hf hvs
                cases hc
                have hfv := hρ f _ hf
                generalize hfe : a.eval f = fv at hfv
                have hvl := opsA_sound hρ _ _ hvs
                cases hfv with
                | fn _ _ cs hl hh =>
                  refine ⟨as.toList.map a.eval ++ cs, hvl.append ⟨hl, hh⟩, ?_⟩
                  have hcal := hok g hg
                  unfold callable at hcal
                  split at hcal
                  · rename_i fn hfn
                    rw [Bool.and_eq_true] at hcal
                    obtain ⟨b1, b2⟩ := hcal
                    have b3 : (fn.name == "runtime.NumGoroutine") = false := by simpa using b2
                    have b4 : fn.body.isNone = false := by cases hb : fn.body <;> simp_all
                    simp only [execOp, ho, resolve, Deferred.ofValue, hfe, invoke, callFunc, Sem.run_bind, Sem.run_pure, Result.andThen_ok, run_program, hfn, b3, b4, Bool.false_eq_true, if_false, arr_map a.eval as]
                    simp
                  · cases hcal
              · cases hc
            · cases hc
          obtain ⟨us, hvl, hrun⟩ := hex
          unfold Oper.wp
          rw [hrun]
          have hcs := hcall g args' hs0 v0 hs' h4 (K.sub touch) w us hR (H.sub h1 h2) (renL_sound (Ren.sub K touch) hvl h3)
          refine hcs.mono ?_
          rintro e w' ⟨K', hv, hst⟩
          obtain ⟨m1, m2, m3⟩ := merge_sound H h1 h2 hst h6
          have hv' := hv.ren m2 h5
          cases hpv : panOf v with
          | none =>
            obtain ⟨u, rfl, hu⟩ := hv'.ret hpv
            exact hn _ w' u hpv hu m1 m3
          | some x =>
            obtain ⟨u, rfl, hu⟩ := hv'.pan hpv
            exact hp x _ w' u hpv hu m1
        · cases ha
      · split at ha
        · rename_i x hx
          cases ha
          unfold panicA at hx
          split at hx
          · rename_i y ho
            split at hx
            · rename_i t z hy
              cases hx
              have hyv := hρ y _ hy
              have hyv' := hyv
              generalize hye : a.eval y = yv at hyv
              cases hyv with
              | ifc _ hz =>
                rename_i uz
                have hrun : (execOp a.eval o).run P w = .halt (.panic (.iface t uz)) w := by
                  simp only [execOp, ho]
                  rw [hye]
                  rfl
                unfold Oper.wp
                rw [hrun]
                exact hp _ K w _ rfl (by rw [hye] at hyv'; exact hyv') (Step.refl H)
            · cases hx
          · cases hx
        · cases ha

/-- A region in the order of the text. -/
def aregT (P : Program) (call : Nat → List AV → List AObj → Option (AV × List AObj)) (okf : Nat → Bool) (tab : List SF) (n : Nat) (rs : List Nat) (ops : Array Oper) : List Oper → Env → List AObj → Option (AExit × Env × List AObj)
  | [], sl, h => some (.normal, sl, h)
  | o :: rest, sl, h => match wantA ops sl o with
    | some true => match actA P call okf tab o sl h with
      | some (v, h', _) => match panOf v with
        | none => aregT P call okf tab n rs ops rest (putA n sl o.dst v) h'
        | some x => some (.pan, panE n rs sl x, h')
      | none => none
    | some false => aregT P call okf tab n rs ops rest (putA n sl o.dst (.tup [])) h
    | none => none
theorem aregT_sound (hcall : CallsOk R P call) (htab : TabOk R P tab) (hok : ∀ f, okf f = true → callable P f = true) {n : Nat} {rs : List Nat} : ∀ (l : List Oper) (sl : Env) (h : List AObj) (ex : AExit) (sl' : Env) (h' : List AObj), aregT P call okf tab n rs ops l sl h = some (ex, sl', h') →
    ∀ (K : Kn) (w : World) (a : Act), K.R = R → WR K h w → EnvOk K n sl a.tmps → (∀ e K' a' w' tm, OutIs n ex e a' tm → EnvOk K' n sl' tm → a'.defers = a.defers → Step K h w K' h' w' → Q e a' w') → wpList P ops Q l a w
  | [], sl, h, ex, sl', h', he, K, w, a, hR, H, hs, hq => by
    cases he
    exact hq .normal K a w _ ⟨rfl, rfl⟩ hs rfl (Step.refl H)
  | o :: rest, sl, h, ex, sl', h', he, K, w, a, hR, H, hs, hq => by
    rw [aregT] at he
    refine wpList_step fun Kp hK => ?_
    split at he
    · rename_i hw
      rw [wantA_sound hs hw]
      simp only [if_true]
      split at he
      · rename_i v h1 t ha
        refine actA_sound hcall htab hok ha hR H hs (fun K' w' u hpn hv hst _ => hK _ _ ?_) (fun x K' w' u hpx hv hst => ?_)
        · rw [hpn] at he
          obtain ⟨p1, p2⟩ := putA_sound (hs.mono hst.ext) hv o.dst
          exact aregT_sound hcall htab hok rest _ h1 ex sl' h' he K' w' _ (hst.ext.R.trans hR) hst.wr p1 (fun e K2 a2 w2 tm q0 q1 q2 q3 => hq e K2 a2 w2 tm q0 q1 (q2.trans p2) (hst.trans q3))
        · rw [hpx] at he
          cases he
          exact hq _ K' a w' _ ⟨hs.1, u, rfl, rfl⟩ (panE_sound (hs.mono hst.ext) hv) rfl hst
      · cases he
    · rename_i hw
      rw [wantA_sound hs hw]
      simp only [Bool.false_eq_true, if_false]
      refine hK _ _ ?_
      obtain ⟨p1, p2⟩ := putA_sound hs (VR.undef K) o.dst
      exact aregT_sound hcall htab hok rest _ h ex sl' h' he K w _ hR H p1 (fun e K2 a2 w2 tm q0 q1 q2 q3 => hq e K2 a2 w2 tm q0 q1 (q2.trans p2) q3)
    · cases he
end
end Go.Proofs.YtjpjcjnacnlhdaaGreat
