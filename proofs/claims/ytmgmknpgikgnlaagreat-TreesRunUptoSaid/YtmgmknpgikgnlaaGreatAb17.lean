/- Functions; what an abstract run shows. -/
import Derived.Test.YtmgmknpgikgnlaaGreatAb16
namespace Go.Proofs.YtmgmknpgikgnlaaGreat
open Go.RowKit

def finishAt (v : AV) (h : List AObj) (m : Nat) (ids : List Nat) : Option (AV × List AObj) :=
  if nodupB ids && (ids.take m == List.range m) then match subH h ids, ren (fun i => posOf i ids) v with
    | some hs, some v' => some (v', hs)
    | _, _ => none
  else none
/-- The end of a function: of the heap only the first m objects are kept, and what they and the result lead to. -/
def finishA (v : AV) (h : List AObj) (m : Nat) : Option (AV × List AObj) := match m, refs v with
  | 0, [] => some (v, [])
  | m, r => finishAt v h m (reach h 1000 ((h.take m).flatMap refsO ++ r) (List.range m))
def finishR (P : Program) (fn : Func) (sl : Env) (h : List AObj) (m : Nat) : Option (AV × List AObj) := match resA P sl h fn.results.toList with
  | some l => finishA (oneOr l) h m
  | none => none
/-- The slots at the beginning of a function. -/
def initE : Nat → List AV → Env
  | _, [] => []
  | k, a :: l => (k, a) :: initE (k + 1) l
def evalB (P : Program) (fn : Func) (m : Nat) (r : Option (AExit × Env × List AObj)) : Option (AV × List AObj) := match r with
  | some (.normal, sl, h') => finishR P fn sl h' m
  | some (.ret, sl, h') => finishR P fn sl h' m
  | _ => none
/-- A function's answer, its calls' answers given. -/
def runF (P : Program) (call : Nat → List AV → List AObj → Option (AV × List AObj)) (okf : Nat → Bool) (tab : List SF) (lf : Nat) (T : FT) (f : Nat) (args : List AV) (h : List AObj) : Option (AV × List AObj) := match P.funcs[f]? with
  | some fn => match fn.body with
    | some c => evalB P fn h.length (acode P call okf tab lf fn.ntmps T c (initE 0 args) h)
    | none => none
  | none => none
/-- A function's answer. -/
def evalF (P : Program) (okf : Nat → Bool) (T : Nat → FT) (Sp : Nat → List AV → List AObj → Option (AV × List AObj)) (lf : Nat) : Nat → Nat → List AV → List AObj → Option (AV × List AObj)
  | 0, _, _, _ => none
  | m + 1, f, args, h => match Sp f args h with
    | some r => some r
    | none => runF P (evalF P okf T Sp lf m) okf [] lf (T f) f args h
def funcOk (P : Program) (T : Nat → FT) (f : Nat) : Bool := match P.funcs[f]? with
  | some fn => match fn.body with
    | some c => tabOk (T f).sd (T f).sx c
    | none => true
  | none => true
def tabsOk (P : Program) (T : Nat → FT) : Prop := ∀ f fn c, P.funcs[f]? = some fn → fn.body = some c → tabOk (T f).sd (T f).sx c = true

section
variable {P : Program} {okf : Nat → Bool} {T : Nat → FT} {Sp : Nat → List AV → List AObj → Option (AV × List AObj)} {lf : Nat}

theorem range_at {ids : List Nat} {m : Nat} (h : ids.take m = List.range m) (k : Nat) (hk : k < m) : ids[k]? = some k := by
  have : (ids.take m)[k]? = some k := by rw [h, List.getElem?_range hk]
  rw [List.getElem?_take, if_pos hk] at this
  exact this
theorem finish_sound {K K' : Kn} {h h' : List AObj} {w w' : World} (H : WR K h w) (S : Step K h w K' h' w') {v : AV} {u : Value} (hv : VR K' v u) {v' : AV} {hs : List AObj} (hf : finishA v h' h.length = some (v', hs)) :
    ∃ K2, VR K2 v' u ∧ Step K h w K2 hs w' := by
  unfold finishA at hf
  split at hf
  · rename_i hm hr
    cases hf
    exact ⟨K'.sub [], ren_sound (Ren.sub K' []) hv (ren_none _ _ hr), Step.sub H S rfl rfl (fun k hk => by omega)⟩
  · unfold finishAt at hf
    split at hf
    · rename_i hc
      rw [Bool.and_eq_true] at hc
      split at hf
      · rename_i hs0 v0 h1 h2
        cases hf
        exact ⟨_, ren_sound (Ren.sub K' _) hv h2, Step.sub H S hc.1 h1 (fun k hk => range_at (by simpa using hc.2) k hk)⟩
      · cases hf
    · cases hf
theorem results_sound {K : Kn} {h : List AObj} {w : World} {sl : Env} {fn : Func} {n : Nat} {tm : Array Value} (W : WR K h w) (hs : EnvOk K n sl tm) {l : List AV} (hr : resA P sl h fn.results.toList = some l) :
    ∃ u, VR K (oneOr l) u ∧ (results fn tm).run P w = .ok u w := by
  obtain ⟨us, hv, hrun⟩ := resA_sound W hs _ _ hr
  have he : results fn tm = (fn.results.mapM (resSem tm) >>= fun vs => pure (if h : vs.size = 1 then vs[0] else .tuple vs)) := by
    unfold results
    congr 1
  have hrun2 : (fn.results.mapM (resSem tm)).run P w = .ok us.toArray w := by
    rw [Array.mapM_eq_mapM_toList]
    simp [hrun]
  refine ⟨if h : us.toArray.size = 1 then us.toArray[0] else .tuple us.toArray, ?_, ?_⟩
  · match l, us, hv with
    | [], [], hv => exact .tup [] [] rfl (fun i h => by simp at h)
    | [a], [u], hv => exact hv.2 0 (by simp) (by simp)
    | a :: b :: l, u :: v :: us, hv =>
      rw [dif_neg (by simp)]
      exact .tup _ _ hv.1 hv.2
    | [], _ :: _, hv => have := hv.1; simp at this
    | [_], [], hv => have := hv.1; simp at this
    | [_], _ :: _ :: _, hv => have := hv.1; simp at this
    | _ :: _ :: _, [], hv => have := hv.1; simp at this
    | _ :: _ :: _, [_], hv => have := hv.1; simp at this
  · rw [he]
    simp only [Sem.run_bind, hrun2, Result.andThen_ok, Sem.run_pure]
theorem look_init {args : List AV} {d : Nat} {v : AV} : ∀ {k : Nat}, look (initE k args) d = some v → k ≤ d ∧ args[d - k]? = some v := by
  induction args with
  | nil => intro k h; cases h
  | cons a l ih =>
    intro k h
    simp only [initE, look] at h
    split at h
    · rename_i hb
      have e := Nat.eq_of_beq_eq_true hb
      subst e
      cases h
      exact ⟨Nat.le_refl _, by simp⟩
    · obtain ⟨h1, h2⟩ := ih h
      refine ⟨by omega, ?_⟩
      rw [show d - k = (d - (k + 1)) + 1 by omega]
      simpa using h2
theorem EnvOk.init {K : Kn} {args : List AV} {us : List Value} (hv : VL K args us) (n : Nat) : EnvOk K n (initE 0 args) (us.toArray ++ Array.replicate (n - us.toArray.size) Go.undef) := by
  refine ⟨by simp; omega, fun d v hd => ?_⟩
  obtain ⟨_, h2⟩ := look_init hd
  rw [Nat.sub_zero] at h2
  obtain ⟨c, hc, hvc⟩ := hv.at_ h2
  have hlt : d < us.length := by
    by_cases hh : d < us.length
    · exact hh
    · rw [List.getElem?_eq_none (by omega)] at hc; cases hc
  have : (us.toArray ++ Array.replicate (n - us.toArray.size) Go.undef).getD d Go.undef = c := by
    rw [Array.getD_eq_getD_getElem?, Array.getElem?_append_left (by simpa using hlt), List.getElem?_toArray, hc]
    rfl
  rw [this]
  exact hvc
theorem runF_sound {R : Nat → PV} {call : Nat → List AV → List AObj → Option (AV × List AObj)} {tab : List SF} {t : FT} {f : Nat} (hcall : CallsOk R P call) (htab : TabOk R P tab) (hok : ∀ f, okf f = true → callable P f = true) (hm : P.follows .mixedOrders = true)
    (hT : ∀ fn c, P.funcs[f]? = some fn → fn.body = some c → tabOk t.sd t.sx c = true) (hL : ∀ fn c, P.funcs[f]? = some fn → fn.body = some c → LpOk R P fn.ntmps t c)
    {args : List AV} {h : List AObj} {v : AV} {h' : List AObj} (he : runF P call okf tab lf t f args h = some (v, h')) : CallOk R P f args h v h' := by
  unfold runF at he
  split at he
  · rename_i fn hfn
    split at he
    · rename_i c hc
      intro K w us hR W hv
      have hfin : ∀ (ex : AExit) (sl : Env) (h1 : List AObj), (ex = .normal ∨ ex = .ret) → acode P call okf tab lf fn.ntmps t c (initE 0 args) h = some (ex, sl, h1) → finishR P fn sl h1 h.length = some (v, h') →
          Calls P f us.toArray w fun e w' => ∃ u K', e = .returned u ∧ VR K' v u ∧ Step K h w K' h' w' := by
        intro ex sl h1 hex ha hf
        refine calls_of_wp hfn hc ?_
        have hcode := acode_sound hcall htab hok hm c (hL fn c hfn hc) (hT fn c hfn hc) _ _ _ _ _ ha K w { tmps := us.toArray ++ Array.replicate (fn.ntmps - us.toArray.size) Go.undef, defers := [] } hR W (EnvOk.init hv _)
        refine wp_mono hcode fun e a' w' hp => ?_
        obtain ⟨rfl, K1, q1, q2, q3⟩ := hp
        unfold finishR at hf
        split at hf
        · rename_i l hl
          obtain ⟨u, hvu, hrun⟩ := results_sound q3.wr q1 hl
          obtain ⟨K2, hv2, hst2⟩ := finish_sound W q3 hvu hf
          rcases hex with rfl | rfl
          · exact ⟨q2, u, hrun, u, K2, rfl, hv2, hst2⟩
          · exact ⟨q2, u, hrun, u, K2, rfl, hv2, hst2⟩
        · cases hf
      unfold evalB at he
      split at he
      · rename_i sl h1 ha
        exact hfin _ _ _ (.inl rfl) ha he
      · rename_i sl h1 ha
        exact hfin _ _ _ (.inr rfl) ha he
      · cases he
    · cases he
  · cases he
theorem evalF_sound {R : Nat → PV} (hsp : CallsOk R P Sp) (hok : ∀ f, okf f = true → callable P f = true) (hT : tabsOk P T) (hL : ∀ f, (T f).lp = none) (hm : P.follows .mixedOrders = true) : ∀ m, CallsOk R P (evalF P okf T Sp lf m)
  | 0, f, args, h, v, h', he => by cases he
  | m + 1, f, args, h, v, h', he => by
    rw [evalF] at he
    split at he
    · rename_i r hr
      cases he
      exact hsp f args h v h' hr
    · exact runF_sound (evalF_sound hsp hok hT hL hm m) (TabOk.nil R P) hok hm (hT f) (fun fn c _ _ lp hlp => by rw [hL] at hlp; cases hlp) he

theorem tabsOk_of {n : Nat} (hs : P.funcs.size = n) (h : (List.range n).all (funcOk P T) = true) : tabsOk P T := by
  intro f fn c hf hc
  have hlt : f < n := by
    rw [← hs]
    exact (Array.getElem?_eq_some_iff.1 hf).1
  rw [List.all_eq_true] at h
  have h1 := h f (List.mem_range.2 hlt)
  unfold funcOk at h1
  rw [hf] at h1
  simp only [hc] at h1
  exact h1
theorem okf_of {n : Nat} (hl : ∀ f, n ≤ f → okf f = false) (h : (List.range n).all (fun f => !okf f || callable P f) = true) : ∀ f, okf f = true → callable P f = true := by
  intro f hf
  by_cases hlt : f < n
  · rw [List.all_eq_true] at h
    have h1 := h f (List.mem_range.2 hlt)
    rw [hf] at h1
    simpa using h1
  · rw [hl f (by omega)] at hf; cases hf
/-- Nothing is known. -/
def K0 (R : Nat → PV) : Kn := ⟨fun _ _ => none, fun _ => 0, fun _ => 0, fun _ => none, R⟩
theorem WR.none (R : Nat → PV) (w : World) : WR (K0 R) [] w := by
  refine ⟨fun _ _ => rfl, fun i h => absurd h (Nat.not_lt_zero _), fun _ _ h => ?_, fun i _ _ h => ?_, fun i _ _ h => ?_, fun i _ _ _ h => ?_, fun i _ _ _ _ h => ?_, fun i _ _ _ h => ?_, fun _ _ _ h => ?_⟩
  · cases h
  · simp at h
  · simp at h
  · simp at h
  · simp at h
  · simp at h
  · cases h
theorem Step.below {K : Kn} {w : World} {K' : Kn} {h' : List AObj} {w' : World} (S : Step K [] w K' h' w') : Below w.heap.size w w' :=
  ⟨S.frm.os, S.frm.tape, S.frm.output, S.frm.size, fun k hk => S.frm.block k hk (fun ⟨i, x, hi, _⟩ => by simp at hi)⟩
/-- A call with plain arguments whose answer is plain. -/
theorem call_plain {R : Nat → PV} {call : Nat → List AV → List AObj → Option (AV × List AObj)} (hc : CallsOk R P call) {f : Nat} {us : List Value} (hp : us.all plainV = true) {v : Value} {h' : List AObj}
    (he : call f (us.map fun u => .pv (.lit u)) [] = some (.pv (.lit v), h')) (w : World) : Calls P f us.toArray w fun e w' => e = .returned v ∧ Below w.heap.size w w' := by
  refine (hc f _ [] _ h' he (K0 R) w us rfl (WR.none R w) ⟨by simp, fun i hi hi' => ?_⟩).mono ?_
  · simp only [List.getElem_map]
    refine .pv (.lit _ ?_)
    rw [List.all_eq_true] at hp
    exact hp _ (List.getElem_mem _)
  · rintro e w' ⟨u, K', rfl, hv, hst⟩
    exact ⟨by rw [val_eq hv rfl], hst.below⟩
end
end Go.Proofs.YtmgmknpgikgnlaaGreat
