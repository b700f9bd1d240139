/- Functions; what an abstract run shows. -/
import Derived.Test.YtjpjcjnacnlhdaaGreatAbD
namespace Go.Proofs.YtjpjcjnacnlhdaaGreat
open Go.RowKit

def finishAt (v : AV) (h : List AObj) (m : Nat) (ids : List Nat) : Option (AV × List AObj) :=
  if nodupB ids && (ids.take m == List.range m) then match subH h ids, ren (fun i => posOf i ids) v with
    | some hs, some v' => some (v', hs)
    | _, _ => none
  else none
/-- The end of a function: of the heap only the first m objects are kept, and what they and the result lead to. -/
def finishA (v : AV) (h : List AObj) (m : Nat) : Option (AV × List AObj) := match m, refs v with
  | 0, [] => some (v, [])
  | m, r => finishAt v h m (reach h 1000 ((h.take m).flatMap refsO ++ r) (List.range m))
def finishR (P : Program) (fn : Func) (sl : Env) (h : List AObj) (m : Nat) : Option (AV × List AObj) := match resA P sl h fn.results.toList with
  | some l => match finishA (oneOr l) h m with
    | some (v, hs) => match panOf v with
      | none => some (v, hs)
      | some _ => none
    | none => none
  | none => none
/-- The slots at the beginning of a function. -/
def initE : Nat → List AV → Env
  | _, [] => []
  | k, a :: l => (k, a) :: initE (k + 1) l
/-- A deferred function: it ends, and tells how the leaving goes on. -/
def T0 : FT := { keep := [], sd := fun _ => [] }
def runDef (P : Program) (call : Nat → List AV → List AObj → Option (AV × List AObj)) (okf : Nat → Bool) (tab : List SF) (g : Nat) (caps : List AV) (h : List AObj) (st : DSt) : Option (List AObj × DSt) := match P.funcs[g]? with
  | some fn => match fn.body with
    | some c => if callable P g && tabOk T0.sd T0.sx c then match acodeS P call okf tab 0 fn.ntmps T0 c (initE 0 caps) h st with
        | some (.normal, sl, h', st') => if (resA P sl h' fn.results.toList).isSome then some (h', st') else none
        | some (.ret, sl, h', st') => if (resA P sl h' fn.results.toList).isSome then some (h', st') else none
        | _ => none
      else none
    | none => none
  | none => none
def settleA : DSt → DSt
  | .taken => .ret
  | st => st
/-- The deferred calls of a function that is being left. -/
def leaveA (P : Program) (call : Nat → List AV → List AObj → Option (AV × List AObj)) (okf : Nat → Bool) (tab : List SF) : List AV → DSt → List AObj → Option (List AObj × DSt)
  | [], st, h => some (h, st)
  | .fn g caps :: ds, st, h => match runDef P call okf tab g caps h st with
    | some (h', st') => leaveA P call okf tab ds (settleA st') h'
    | none => none
  | _ :: _, _, _ => none
/-- The slots, without a panic's value. -/
def unpan (n : Nat) : Env → Env
  | [] => []
  | (d, v) :: e => match Nat.beq n d with
    | true => unpan n e
    | false => (d, v) :: unpan n e
def evalB (P : Program) (fn : Func) (m : Nat) (r : Option (AExit × Env × List AObj)) : Option (AV × List AObj) := match r with
  | some (.normal, sl, h') => finishR P fn sl h' m
  | some (.ret, sl, h') => finishR P fn sl h' m
  | some (.pan, sl, h') => match look sl fn.ntmps with
    | some x => finishA (.tup [.tup [], x]) h' m
    | none => none
  | _ => none
/-- The same, of a function with deferred calls. -/
def evalBD (P : Program) (call : Nat → List AV → List AObj → Option (AV × List AObj)) (okf : Nat → Bool) (tab : List SF) (fn : Func) (m : Nat) (r : Option (AExit × Env × List AObj × List AV)) : Option (AV × List AObj) := match r with
  | some (.normal, sl, h', ds) => match leaveA P call okf tab ds .ret h' with
    | some (h2, .ret) => finishR P fn sl h2 m
    | _ => none
  | some (.ret, sl, h', ds) => match leaveA P call okf tab ds .ret h' with
    | some (h2, .ret) => finishR P fn sl h2 m
    | _ => none
  | some (.pan, sl, h', ds) => match look sl fn.ntmps with
    | some x => match leaveA P call okf tab ds (.pan x) h' with
      | some (h2, .pan y) => finishA (.tup [.tup [], y]) h2 m
      | some (h2, .ret) => finishR P fn (unpan fn.ntmps sl) h2 m
      | _ => none
    | none => none
  | _ => none
/-- A function's answer, its calls' answers given. -/
def runF (P : Program) (call : Nat → List AV → List AObj → Option (AV × List AObj)) (okf : Nat → Bool) (tab : List SF) (lf : Nat) (T : FT) (f : Nat) (args : List AV) (h : List AObj) : Option (AV × List AObj) := match P.funcs[f]? with
  | some fn => match fn.body with
    | some c => match T.df with
      | false => evalB P fn h.length (acode P call okf tab lf fn.ntmps T c (initE 0 args) h)
      | true => evalBD P call okf tab fn h.length (acodeD P call okf tab lf fn.ntmps T c (initE 0 args) h [])
    | none => none
  | none => none
/-- A function's answer. -/
def evalF (P : Program) (okf : Nat → Bool) (T : Nat → FT) (Sp : Nat → List AV → List AObj → Option (AV × List AObj)) (lf : Nat) : Nat → Nat → List AV → List AObj → Option (AV × List AObj)
  | 0, _, _, _ => none
  | m + 1, f, args, h => match Sp f args h with
    | some r => some r
    | none => runF P (evalF P okf T Sp lf m) okf [] lf (T f) f args h
def funcOk (P : Program) (T : Nat → FT) (f : Nat) : Bool := match P.funcs[f]? with
  | some fn => match fn.body with
    | some c => tabOk (T f).sd (T f).sx c
    | none => true
  | none => true
def tabsOk (P : Program) (T : Nat → FT) : Prop := ∀ f fn c, P.funcs[f]? = some fn → fn.body = some c → tabOk (T f).sd (T f).sx c = true

section
variable {P : Program} {okf : Nat → Bool} {T : Nat → FT} {Sp : Nat → List AV → List AObj → Option (AV × List AObj)} {lf : Nat}

theorem range_at {ids : List Nat} {m : Nat} (h : ids.take m = List.range m) (k : Nat) (hk : k < m) : ids[k]? = some k := by
  have : (ids.take m)[k]? = some k := by rw [h, List.getElem?_range hk]
  rw [List.getElem?_take, if_pos hk] at this
  exact this
theorem finish_sound {K K' : Kn} {h h' : List AObj} {w w' : World} (H : WR K h w) (S : Step K h w K' h' w') {v : AV} {v' : AV} {hs : List AObj} (hf : finishA v h' h.length = some (v', hs)) :
    ∃ f K2, Ren f K' K2 ∧ ren f v = some v' ∧ Step K h w K2 hs w' := by
  unfold finishA at hf
  split at hf
  · rename_i hm hr
    cases hf
    exact ⟨_, K'.sub [], Ren.sub K' [], ren_none _ _ hr, Step.sub H S rfl rfl (fun k hk => by omega)⟩
  · unfold finishAt at hf
    split at hf
    · rename_i hc
      rw [Bool.and_eq_true] at hc
      split at hf
      · rename_i hs0 v0 h1 h2
        cases hf
        exact ⟨_, _, Ren.sub K' _, h2, Step.sub H S hc.1 h1 (fun k hk => range_at (by simpa using hc.2) k hk)⟩
      · cases hf
    · cases hf
theorem results_sound {K : Kn} {h : List AObj} {w : World} {sl : Env} {fn : Func} {n : Nat} {tm : Array Value} (W : WR K h w) (hs : EnvOk K n sl tm) {l : List AV} (hr : resA P sl h fn.results.toList = some l) :
    ∃ u, VR K (oneOr l) u ∧ (results fn tm).run P w = .ok u w := by
  obtain ⟨us, hv, hrun⟩ := resA_sound W hs _ _ hr
  have he : results fn tm = (fn.results.mapM (resSem tm) >>= fun vs => pure (if h : vs.size = 1 then vs[0] else .tuple vs)) := by
    unfold results
    congr 1
  have hrun2 : (fn.results.mapM (resSem tm)).run P w = .ok us.toArray w := by
    rw [Array.mapM_eq_mapM_toList]
    simp [hrun]
  refine ⟨if h : us.toArray.size = 1 then us.toArray[0] else .tuple us.toArray, ?_, ?_⟩
  · match l, us, hv with
    | [], [], hv => exact .tup [] [] rfl (fun i h => by simp at h)
    | [a], [u], hv => exact hv.2 0 (by simp) (by simp)
    | a :: b :: l, u :: v :: us, hv =>
      rw [dif_neg (by simp)]
      exact .tup _ _ hv.1 hv.2
    | [], _ :: _, hv => have := hv.1; simp at this
    | [_], [], hv => have := hv.1; simp at this
    | [_], _ :: _ :: _, hv => have := hv.1; simp at this
    | _ :: _ :: _, [], hv => have := hv.1; simp at this
    | _ :: _ :: _, [_], hv => have := hv.1; simp at this
  · rw [he]
    simp only [Sem.run_bind, hrun2, Result.andThen_ok, Sem.run_pure]
theorem look_init {args : List AV} {d : Nat} {v : AV} : ∀ {k : Nat}, look (initE k args) d = some v → k ≤ d ∧ args[d - k]? = some v := by
  induction args with
  | nil => intro k h; cases h
  | cons a l ih =>
    intro k h
    simp only [initE, look] at h
    split at h
    · rename_i hb
      have e := Nat.eq_of_beq_eq_true hb
      subst e
      cases h
      exact ⟨Nat.le_refl _, by simp⟩
    · obtain ⟨h1, h2⟩ := ih h
      refine ⟨by omega, ?_⟩
      rw [show d - k = (d - (k + 1)) + 1 by omega]
      simpa using h2
theorem EnvOk.init {K : Kn} {args : List AV} {us : List Value} (hv : VL K args us) (n : Nat) : EnvOk K n (initE 0 args) (us.toArray ++ Array.replicate (n - us.toArray.size) Go.undef) := by
  refine ⟨by simp; omega, fun d v hd => ?_⟩
  obtain ⟨_, h2⟩ := look_init hd
  rw [Nat.sub_zero] at h2
  obtain ⟨c, hc, hvc⟩ := hv.at_ h2
  have hlt : d < us.length := by
    by_cases hh : d < us.length
    · exact hh
    · rw [List.getElem?_eq_none (by omega)] at hc; cases hc
  have : (us.toArray ++ Array.replicate (n - us.toArray.size) Go.undef).getD d Go.undef = c := by
    rw [Array.getD_eq_getD_getElem?, Array.getElem?_append_left (by simpa using hlt), List.getElem?_toArray, hc]
    rfl
  rw [this]
  exact hvc
theorem unpan_look {n d : Nat} {v : AV} : ∀ {e : Env}, look (unpan n e) d = some v → n ≠ d ∧ look e d = some v
  | [], h => by cases h
  | (k, u) :: e, h => by
    rw [unpan] at h
    split at h
    · rename_i hb
      obtain ⟨h1, h2⟩ := unpan_look h
      refine ⟨h1, ?_⟩
      have e1 := Nat.eq_of_beq_eq_true hb
      have : Nat.beq k d = false := by
        cases hq : Nat.beq k d with
        | false => rfl
        | true => exact absurd (e1.trans (Nat.eq_of_beq_eq_true hq)) h1
      simp only [look, this]; exact h2
    · rename_i hb
      simp only [look] at h ⊢
      split at h
      · rename_i hq
        cases h
        exact ⟨by rw [← Nat.eq_of_beq_eq_true hq]; exact Nat.ne_of_beq_eq_false hb, rfl⟩
      · exact unpan_look h
theorem unpan_ok {K : Kn} {n : Nat} {sl : Env} {tm : Array Value} {u : Value} (h : EnvOk K n sl (panT n tm u)) (hn : n ≤ tm.size) : EnvOk K n (unpan n sl) tm := by
  refine ⟨hn, fun d v hd => ?_⟩
  obtain ⟨h1, h2⟩ := unpan_look hd
  have := h.2 d v h2
  rw [panT_ne hn h1] at this
  exact this
theorem DStOk.settle {K : Kn} {st : DSt} {m : FrameMode} (h : DStOk K st m) : DStOk K (settleA st) (Go.settle m) := by
  cases st with
  | ret => cases h; rfl
  | pan x => obtain ⟨u, rfl, hu⟩ := h; exact ⟨u, rfl, hu⟩
  | taken => obtain ⟨u, rfl⟩ := h; rfl
theorem runDef_sound {R : Nat → PV} {call : Nat → List AV → List AObj → Option (AV × List AObj)} {tab : List SF} (hcall : CallsOk R P call) (htab : TabOk R P tab) (hok : ∀ f, okf f = true → callable P f = true) (hm : P.follows .mixedOrders = true)
    {g : Nat} {caps : List AV} {h : List AObj} {st : DSt} {h' : List AObj} {st' : DSt} (he : runDef P call okf tab g caps h st = some (h', st')) {K : Kn} {w : World} {us : List Value} {m : FrameMode} (hR : K.R = R) (W : WR K h w) (hv : VL K caps us) (hd : DStOk K st m) :
    callable P g = true ∧ CallsD P g us.toArray m w fun e m' w' => ∃ u K', e = .returned u ∧ DStOk K' st' m' ∧ Step K h w K' h' w' := by
  unfold runDef at he
  split at he
  · rename_i fn hfn
    split at he
    · rename_i c hc
      split at he
      · rename_i hcond
        rw [Bool.and_eq_true] at hcond
        refine ⟨hcond.1, callsD_of_wpS hfn hc fun c0 cs hm0 => ?_⟩
        have hc0 : ({ c0 with mode := m } : Frame) = c0 := by subst hm0; rfl
        have hfin : ∀ (ex : AExit) (sl : Env), (ex = .normal ∨ ex = .ret) → acodeS P call okf tab 0 fn.ntmps T0 c (initE 0 caps) h st = some (ex, sl, h', st') → (resA P sl h' fn.results.toList).isSome = true →
            c.wpS P (bodyPostS P fn c0 cs fun e m' w' => ∃ u K', e = .returned u ∧ DStOk K' st' m' ∧ Step K h w K' h' w') { tmps := us.toArray ++ Array.replicate (fn.ntmps - us.toArray.size) Go.undef, defers := [] } (c0 :: cs) w := by
          intro ex sl hex ha hr
          have hcode := acodeS_sound (c0 := c0) (cs := cs) hcall htab hok hm c (fun lp hlp => by cases hlp) hcond.2 _ _ _ _ _ _ _ ha K w { tmps := us.toArray ++ Array.replicate (fn.ntmps - us.toArray.size) Go.undef, defers := [] } m hR W (EnvOk.init hv _) hd
          rw [hc0] at hcode
          refine wpS_mono hcode fun e a' cs' w' hp => ?_
          obtain ⟨rfl, _, K1, m1, q1, q2, q3, q4, q5⟩ := hp
          obtain ⟨l, hl⟩ := Option.isSome_iff_exists.1 hr
          obtain ⟨u, _, hrun⟩ := results_sound q5.wr q1 hl
          rcases hex with rfl | rfl
          · exact ⟨q2, m1, q3, u, hrun, u, K1, rfl, q4, q5⟩
          · exact ⟨q2, m1, q3, u, hrun, u, K1, rfl, q4, q5⟩
        split at he
        · rename_i sl h1 st1 ha
          split at he
          · rename_i hr
            cases he
            exact hfin _ _ (.inl rfl) ha hr
          · cases he
        · rename_i sl h1 st1 ha
          split at he
          · rename_i hr
            cases he
            exact hfin _ _ (.inr rfl) ha hr
          · cases he
        · cases he
      · cases he
    · cases he
  · cases he
theorem leaveA_sound {R : Nat → PV} {call : Nat → List AV → List AObj → Option (AV × List AObj)} {tab : List SF} (hcall : CallsOk R P call) (htab : TabOk R P tab) (hok : ∀ f, okf f = true → callable P f = true) (hm : P.follows .mixedOrders = true) {fn : Func} {tmps : Array Value} {Q : Ending → World → Prop} :
    ∀ (ds : List AV) (st : DSt) (h : List AObj) (h' : List AObj) (st' : DSt), leaveA P call okf tab ds st h = some (h', st') → ∀ {K : Kn} {w : World} {dl : List Deferred} {m : FrameMode}, K.R = R → WR K h w → DL K ds dl → DStOk K st m →
      (∀ K' w' m', Step K h w K' h' w' → DStOk K' st' m' → Leaves P fn tmps Q [] m' w') → Leaves P fn tmps Q dl m w
  | [], st, h, h', st', he, K, w, [], m, hR, W, _, hd, hq => by
    cases he
    exact hq K w m (Step.refl W) hd
  | .fn g caps :: ds, st, h, h', st', he, K, w, d :: dl, m, hR, W, hdl, hd, hq => by
    rw [leaveA] at he
    split at he
    · rename_i h1 st1 hr
      obtain ⟨⟨g', cs', us, e1, hv, rfl⟩, hdl'⟩ := hdl
      cases e1
      obtain ⟨hcal, hcd⟩ := runDef_sound hcall htab hok hm hr hR W hv hd
      refine leaves_cons (f := g) (args := us.toArray) ?_ ?_ (hcd.mono fun e m' w' hp => ?_)
      · intro e
        cases st with
        | ret => cases hd; cases e
        | pan x => obtain ⟨u, rfl, _⟩ := hd; cases e
        | taken => obtain ⟨u, rfl⟩ := hd; cases e
      · unfold callable at hcal
        split at hcal
        · rename_i fn' hfn
          rw [Bool.and_eq_true] at hcal
          obtain ⟨b1, b2⟩ := hcal
          have b3 : (fn'.name == "runtime.NumGoroutine") = false := by simpa using b2
          have b4 : fn'.body.isNone = false := by cases hb : fn'.body <;> simp_all
          simp only [invoke, callFunc, Sem.run_bind, Sem.run_pure, Result.andThen_ok, run_program, hfn, b3, b4, Bool.false_eq_true, if_false]
          simp
        · cases hcal
      · obtain ⟨u, K1, rfl, q1, q2⟩ := hp
        exact leaveA_sound hcall htab hok hm ds _ h1 h' st' he (q2.ext.R.trans hR) q2.wr (hdl'.mono q2.ext) q1.settle (fun K' w2 m2 r1 r2 => hq K' w2 m2 (q2.trans r1) r2)
    · cases he
  | [], _, _, _, _, _, _, _, _ :: _, _, _, _, h, _, _ => h.elim
  | _ :: _, _, _, _, _, _, _, _, [], _, _, _, h, _, _ => h.elim
  | .pv _ :: _, _, _, _, _, he, _, _, _ :: _, _, _, _, _, _, _ => by cases he
  | .trows _ _ :: _, _, _, _, _, he, _, _, _ :: _, _, _, _, _, _, _ => by cases he
  | .tsym _ _ :: _, _, _, _, _, he, _, _, _ :: _, _, _, _, _, _, _ => by cases he
  | .ptr _ _ :: _, _, _, _, _, he, _, _, _ :: _, _, _, _, _, _, _ => by cases he
  | .cptr _ :: _, _, _, _, _, he, _, _, _ :: _, _, _, _, _, _, _ => by cases he
  | .agg _ :: _, _, _, _, _, he, _, _, _ :: _, _, _, _, _, _, _ => by cases he
  | .tup _ :: _, _, _, _, _, he, _, _, _ :: _, _, _, _, _, _, _ => by cases he
  | .sl _ _ _ _ :: _, _, _, _, _, he, _, _, _ :: _, _, _, _, _, _, _ => by cases he
  | .mp _ :: _, _, _, _, _, he, _, _, _ :: _, _, _, _, _, _, _ => by cases he
  | .ifc _ _ :: _, _, _, _, _, he, _, _, _ :: _, _, _, _, _, _, _ => by cases he
/-- What stands behind a function that has come to its end. -/
theorem finishR_sound {K K' : Kn} {h h' : List AObj} {w w' : World} {sl : Env} {fn : Func} {n : Nat} {tm : Array Value} (H : WR K h w) (S : Step K h w K' h' w') (hs : EnvOk K' n sl tm) {v : AV} {hs' : List AObj} (hf : finishR P fn sl h' h.length = some (v, hs')) :
    ∃ u, (results fn tm).run P w' = .ok u w' ∧ ∃ K2, EndR K2 v (.returned u) ∧ Step K h w K2 hs' w' := by
  unfold finishR at hf
  split at hf
  · rename_i l hl
    obtain ⟨u, hvu, hrun⟩ := results_sound S.wr hs hl
    split at hf
    · rename_i v1 hs1 hf1
      split at hf
      · rename_i hn
        cases hf
        obtain ⟨f, K2, r1, r2, r3⟩ := finish_sound H S hf1
        exact ⟨u, hrun, K2, .of hn (ren_sound r1 hvu r2), r3⟩
      · cases hf
    · cases hf
  · cases hf
theorem runF_sound {R : Nat → PV} {call : Nat → List AV → List AObj → Option (AV × List AObj)} {tab : List SF} {t : FT} {f : Nat} (hcall : CallsOk R P call) (htab : TabOk R P tab) (hok : ∀ f, okf f = true → callable P f = true) (hm : P.follows .mixedOrders = true)
    (hT : ∀ fn c, P.funcs[f]? = some fn → fn.body = some c → tabOk t.sd t.sx c = true) (hL : ∀ fn c, P.funcs[f]? = some fn → fn.body = some c → LpOk R P fn.ntmps t c)
    {args : List AV} {h : List AObj} {v : AV} {h' : List AObj} (he : runF P call okf tab lf t f args h = some (v, h')) : CallOk R P f args h v h' := by
  unfold runF at he
  split at he
  · rename_i fn hfn
    split at he
    · rename_i c hc
      split at he
      · intro K w us hR W hv
        have hfin : ∀ (ex : AExit) (sl : Env) (h1 : List AObj), (ex = .normal ∨ ex = .ret) → acode P call okf tab lf fn.ntmps t c (initE 0 args) h = some (ex, sl, h1) → finishR P fn sl h1 h.length = some (v, h') →
            Calls P f us.toArray w fun e w' => ∃ K', EndR K' v e ∧ Step K h w K' h' w' := by
          intro ex sl h1 hex ha hf
          refine calls_of_wp hfn hc ?_
          have hcode := acode_sound hcall htab hok hm c (hL fn c hfn hc) (hT fn c hfn hc) _ _ _ _ _ ha K w { tmps := us.toArray ++ Array.replicate (fn.ntmps - us.toArray.size) Go.undef, defers := [] } hR W (EnvOk.init hv _)
          refine wp_mono hcode fun e a' w' hp => ?_
          obtain ⟨tm, q0, K1, q1, q2, q3⟩ := hp
          rcases hex with rfl | rfl
          · obtain ⟨rfl, rfl⟩ := q0
            obtain ⟨u, hrun, hu⟩ := finishR_sound W q3 q1 hf
            exact ⟨q2, u, hrun, hu⟩
          · obtain ⟨rfl, rfl⟩ := q0
            obtain ⟨u, hrun, hu⟩ := finishR_sound W q3 q1 hf
            exact ⟨q2, u, hrun, hu⟩
        unfold evalB at he
        split at he
        · rename_i sl h1 ha
          exact hfin _ _ _ (.inl rfl) ha he
        · rename_i sl h1 ha
          exact hfin _ _ _ (.inr rfl) ha he
        · rename_i sl h1 ha
          split at he
          · rename_i x hx
            refine calls_of_wp hfn hc ?_
            have hcode := acode_sound hcall htab hok hm c (hL fn c hfn hc) (hT fn c hfn hc) _ _ _ _ _ ha K w { tmps := us.toArray ++ Array.replicate (fn.ntmps - us.toArray.size) Go.undef, defers := [] } hR W (EnvOk.init hv _)
            refine wp_mono hcode fun e a' w' hp => ?_
            obtain ⟨tm, ⟨hn, u, rfl, rfl⟩, K1, q1, q2, q3⟩ := hp
            obtain ⟨g, K2, r1, r2, r3⟩ := finish_sound W q3 he
            have hxu := q1.2 _ _ hx
            rw [panT_at hn] at hxu
            exact ⟨q2, K2, (EndR.ofPan hxu).ren r1 r2, r3⟩
          · cases he
        · cases he
      · intro K w us hR W hv
        unfold evalBD at he
        have hcodeD : ∀ {ex sl h1 ds}, acodeD P call okf tab lf fn.ntmps t c (initE 0 args) h [] = some (ex, sl, h1, ds) → c.wp P (PostD K fn.ntmps h w ex sl h1 ds) { tmps := us.toArray ++ Array.replicate (fn.ntmps - us.toArray.size) Go.undef, defers := [] } w := fun ha =>
          acodeD_sound hcall htab hok hm c (hL fn c hfn hc) (hT fn c hfn hc) _ _ _ _ _ _ _ ha K w _ hR W (EnvOk.init hv _) trivial
        split at he
        · rename_i sl h1 ds ha
          split at he
          · rename_i h2 hle
            refine calls_of_wp_defers hfn hc (wp_mono (hcodeD ha) fun e a' w' hp => ?_)
            obtain ⟨tm, ⟨rfl, rfl⟩, K1, q1, q2, q3⟩ := hp
            refine leaveA_sound hcall htab hok hm _ _ _ _ _ hle (q3.ext.R.trans hR) q3.wr q2 rfl (fun K2 w2 m2 s1 s2 => ?_)
            cases s2
            obtain ⟨u, hrun, hu⟩ := finishR_sound W (q3.trans s1) (q1.mono s1.ext) he
            exact ⟨u, hrun, hu⟩
          · cases he
        · rename_i sl h1 ds ha
          split at he
          · rename_i h2 hle
            refine calls_of_wp_defers hfn hc (wp_mono (hcodeD ha) fun e a' w' hp => ?_)
            obtain ⟨tm, ⟨rfl, rfl⟩, K1, q1, q2, q3⟩ := hp
            refine leaveA_sound hcall htab hok hm _ _ _ _ _ hle (q3.ext.R.trans hR) q3.wr q2 rfl (fun K2 w2 m2 s1 s2 => ?_)
            cases s2
            obtain ⟨u, hrun, hu⟩ := finishR_sound W (q3.trans s1) (q1.mono s1.ext) he
            exact ⟨u, hrun, hu⟩
          · cases he
        · rename_i sl h1 ds ha
          split at he
          · rename_i x hx
            split at he
            · rename_i h2 y hle
              refine calls_of_wp_defers hfn hc (wp_mono (hcodeD ha) fun e a' w' hp => ?_)
              obtain ⟨tm, ⟨hn, u, rfl, rfl⟩, K1, q1, q2, q3⟩ := hp
              have hxu := q1.2 _ _ hx
              rw [panT_at hn] at hxu
              refine leaveA_sound hcall htab hok hm _ _ _ _ _ hle (q3.ext.R.trans hR) q3.wr q2 ⟨u, rfl, hxu⟩ (fun K2 w2 m2 s1 s2 => ?_)
              obtain ⟨u2, rfl, hu2⟩ := s2
              obtain ⟨g, K3, r1, r2, r3⟩ := finish_sound W (q3.trans s1) he
              exact ⟨K3, (EndR.ofPan hu2).ren r1 r2, r3⟩
            · rename_i h2 hle
              refine calls_of_wp_defers hfn hc (wp_mono (hcodeD ha) fun e a' w' hp => ?_)
              obtain ⟨tm, ⟨hn, u, rfl, rfl⟩, K1, q1, q2, q3⟩ := hp
              have hxu := q1.2 _ _ hx
              rw [panT_at hn] at hxu
              refine leaveA_sound hcall htab hok hm _ _ _ _ _ hle (q3.ext.R.trans hR) q3.wr q2 ⟨u, rfl, hxu⟩ (fun K2 w2 m2 s1 s2 => ?_)
              cases s2
              obtain ⟨u, hrun, hu⟩ := finishR_sound W (q3.trans s1) ((unpan_ok q1 hn).mono s1.ext) he
              exact ⟨u, hrun, hu⟩
            · cases he
          · cases he
        · cases he
    · cases he
  · cases he
theorem evalF_sound {R : Nat → PV} (hsp : CallsOk R P Sp) (hok : ∀ f, okf f = true → callable P f = true) (hT : tabsOk P T) (hL : ∀ f, (T f).lp = none) (hm : P.follows .mixedOrders = true) : ∀ m, CallsOk R P (evalF P okf T Sp lf m)
  | 0, f, args, h, v, h', he => by cases he
  | m + 1, f, args, h, v, h', he => by
    rw [evalF] at he
    split at he
    · rename_i r hr
      cases he
      exact hsp f args h v h' hr
    · exact runF_sound (evalF_sound hsp hok hT hL hm m) (TabOk.nil R P) hok hm (hT f) (fun fn c _ _ lp hlp => by rw [hL] at hlp; cases hlp) he

theorem tabsOk_of {n : Nat} (hs : P.funcs.size = n) (h : (List.range n).all (funcOk P T) = true) : tabsOk P T := by
  intro f fn c hf hc
  have hlt : f < n := by
    rw [← hs]
    exact (Array.getElem?_eq_some_iff.1 hf).1
  rw [List.all_eq_true] at h
  have h1 := h f (List.mem_range.2 hlt)
  unfold funcOk at h1
  rw [hf] at h1
  simp only [hc] at h1
  exact h1
theorem okf_of {n : Nat} (hl : ∀ f, n ≤ f → okf f = false) (h : (List.range n).all (fun f => !okf f || callable P f) = true) : ∀ f, okf f = true → callable P f = true := by
  intro f hf
  by_cases hlt : f < n
  · rw [List.all_eq_true] at h
    have h1 := h f (List.mem_range.2 hlt)
    rw [hf] at h1
    simpa using h1
  · rw [hl f (by omega)] at hf; cases hf
/-- Nothing is known. -/
def K0 (R : Nat → PV) : Kn := ⟨fun _ _ => none, fun _ => 0, fun _ => 0, fun _ => none, R⟩
theorem WR.none (R : Nat → PV) (w : World) : WR (K0 R) [] w := by
  refine ⟨fun _ _ => rfl, fun i h => absurd h (Nat.not_lt_zero _), fun _ _ h => ?_, fun i _ _ h => ?_, fun i _ _ h => ?_, fun i _ _ _ h => ?_, fun i _ _ _ _ h => ?_, fun i _ _ _ h => ?_, fun _ _ _ h => ?_⟩
  · cases h
  · simp at h
  · simp at h
  · simp at h
  · simp at h
  · simp at h
  · cases h
theorem Step.below {K : Kn} {w : World} {K' : Kn} {h' : List AObj} {w' : World} (S : Step K [] w K' h' w') : Below w.heap.size w w' :=
  ⟨S.frm.os, S.frm.tape, S.frm.output, S.frm.size, fun k hk => S.frm.block k hk (fun ⟨i, x, hi, _⟩ => by simp at hi)⟩
/-- A call with plain arguments whose answer is plain. -/
theorem call_plain {R : Nat → PV} {call : Nat → List AV → List AObj → Option (AV × List AObj)} (hc : CallsOk R P call) {f : Nat} {us : List Value} (hp : us.all plainV = true) {v : Value} {h' : List AObj}
    (he : call f (us.map fun u => .pv (.lit u)) [] = some (.pv (.lit v), h')) (w : World) : Calls P f us.toArray w fun e w' => e = .returned v ∧ Below w.heap.size w w' := by
  refine (hc f _ [] _ h' he (K0 R) w us rfl (WR.none R w) ⟨by simp, fun i hi hi' => ?_⟩).mono ?_
  · simp only [List.getElem_map]
    refine .pv (.lit _ ?_)
    rw [List.all_eq_true] at hp
    exact hp _ (List.getElem_mem _)
  · rintro e w' ⟨K', hv, hst⟩
    obtain ⟨u, rfl, hv2⟩ := hv.ret rfl
    exact ⟨by rw [val_eq hv2 rfl], hst.below⟩
end
end Go.Proofs.YtjpjcjnacnlhdaaGreat
