/- Regions that draw their order. -/
import Derived.Test.YtjpjcjnacnlhdaaGreatAb14
namespace Go.Proofs.YtjpjcjnacnlhdaaGreat
open Go.RowKit

def waitsOn (ops : Array Oper) (md : Region.Mode) (j k : Nat) : Bool := match ops[j]? with
  | some oj => oj.after.any fun e => Region.binds md e && e.on == k
  | none => false

section
variable {P : Program} {ops : Array Oper} {Q : Exit → Act → World → Prop} {md : Region.Mode}

/-- Whatever order is picked; each condition of H holds behind every operation that does not wait for the condition's own. -/
def wpAnyX (P : Program) (md : Region.Mode) (ops : Array Oper) (Q : Exit → Act → World → Prop) : Nat → List (Nat × (World → Prop)) → Array Bool → Act → World → Prop
  | 0, _, listed, a, w => Region.ready md ops listed = [] ∧ Q .normal a w
  | fuel + 1, H, listed, a, w =>
    (Region.ready md ops listed = [] → Q .normal a w) ∧
    ∀ i ∈ Region.ready md ops listed, wpOp P ops Q i (fun a' w' => (∀ p ∈ H, waitsOn ops md i p.1 = false → p.2 w') ∧
      wpAnyX P md ops Q fuel (H.filter fun p => !waitsOn ops md i p.1) (listed.setIfInBounds i true) a' w') a w
theorem wpAny_of_X : ∀ (fuel : Nat) (H : List (Nat × (World → Prop))) (listed : Array Bool) (a : Act) (w : World), wpAnyX P md ops Q fuel H listed a w → wpAny P md ops Q fuel listed a w
  | 0, _, _, _, _, h => h
  | fuel + 1, _, _, _, _, h => ⟨h.1, fun i hi => wpOp_mono (fun a' w' h' => wpAny_of_X fuel _ _ a' w' h'.2) (h.2 i hi)⟩
theorem wpAnyX_sub : ∀ (fuel : Nat) (H H' : List (Nat × (World → Prop))) (listed : Array Bool) (a : Act) (w : World), (∀ p ∈ H', p ∈ H) → wpAnyX P md ops Q fuel H listed a w → wpAnyX P md ops Q fuel H' listed a w
  | 0, _, _, _, _, _, _, h => h
  | fuel + 1, H, H', listed, a, w, hs, h => by
    refine ⟨h.1, fun i hi => wpOp_mono (fun a' w' h' => ⟨fun p hp hw => h'.1 p (hs p hp) hw, wpAnyX_sub fuel _ _ _ a' w' (fun p hp => ?_) h'.2⟩) (h.2 i hi)⟩
    rw [List.mem_filter] at hp ⊢
    exact ⟨hs p hp.1, hp.2⟩
theorem not_waits {i j : Nat} {oj : Oper} (hoj : ops[j]? = some oj) (hno : ∀ e ∈ oj.after, Region.binds md e = true → e.on ≠ i) : waitsOn ops md j i = false := by
  unfold waitsOn
  rw [hoj]
  simp only
  rw [Array.any_eq_false']
  intro e he hb
  rw [Bool.and_eq_true] at hb
  exact hno e he hb.1 (by simpa using hb.2)
theorem wpAnyX_first {i : Nat} {oi : Oper} {v : Value} {S : World → Prop} (hi : ops[i]? = some oi) (hsel : ∀ (j : Nat) (o : Oper) cs b, ops[j]? = some o → o.op ≠ .select cs b)
    (hQ : ∀ c a w, Q (.panic c) (a.put oi.dst v) w → Q (.panic c) a w) :
    ∀ (fuel : Nat) (H : List (Nat × (World → Prop))) (listed : Array Bool) (a : Act) (w : World),
      (∀ j oj, ops[j]? = some oj → j ≠ i → listed.getD j true = false → (∀ e ∈ oj.after, Region.binds md e = true → e.on ≠ i) → oi.apart ops oj = true) →
      i ∈ Region.ready md ops listed → YieldsIf P ops S oi v a → S w → (∀ p ∈ H, p.2 w) →
      wpAnyX P md ops Q fuel ((i, S) :: H) (listed.setIfInBounds i true) (a.put oi.dst v) w → wpAnyX P md ops Q (fuel + 1) H listed a w := by
  intro fuel
  induction fuel with
  | zero =>
    intro H listed a w _ hr hy hS hH X
    refine ⟨fun h => (by rw [h] at hr; cases hr), fun j hj => ?_⟩
    by_cases hji : j = i
    · subst hji; exact hy.wpOp hi hS ⟨fun p hp _ => hH p hp, X⟩
    · have := ready_mono hj hji
      rw [X.1] at this
      cases this
  | succ fuel ih =>
    intro H listed a w hfree hr hy hS hH X
    refine ⟨fun h => (by rw [h] at hr; cases hr), fun j hj => ?_⟩
    by_cases hji : j = i
    · subst hji
      refine hy.wpOp hi hS ⟨fun p hp _ => hH p hp, ?_⟩
      refine wpAnyX_sub _ _ _ _ _ _ (fun p hp => ?_) X
      rw [List.mem_filter] at hp
      exact List.mem_cons_of_mem _ hp.1
    · have h1 := X.2 j (ready_mono hj hji)
      obtain ⟨hjun, oj, hoj, hall⟩ := mem_ready.1 hj
      have hnot : ∀ e ∈ oj.after, Region.binds md e = true → e.on ≠ i := fun e he hb heq => by
        have h1 := hall e he hb
        have h0 := (mem_ready.1 hr).1
        rw [heq] at h1
        rcases Nat.lt_or_ge i listed.size with h' | h'
        · simp [h'] at h0 h1; rw [h0] at h1; cases h1
        · simp [Array.getElem?_eq_none h'] at h1
      have hnw : waitsOn ops md j i = false := not_waits hoj hnot
      have h2 := wpOp_putIf hoj (hfree j oj hoj hji hjun hnot) (fun cs b => hsel i oi cs b hi) (fun cs b => hsel j oj cs b hoj) hQ hy h1
      have hfree' : ∀ k ok, ops[k]? = some ok → k ≠ i → (listed.setIfInBounds j true).getD k true = false →
          (∀ e ∈ ok.after, Region.binds md e = true → e.on ≠ i) → oi.apart ops ok = true := fun k ok hk hki hun hno => by
        refine hfree k ok hk hki ?_ hno
        by_cases hjk : j = k
        · subst hjk; exact hjun
        · rw [getD_set_ne true hjk] at hun; exact hun
      refine wpOp_mono (fun a' w' h3 => ⟨fun p hp hw => h3.2.1 p (List.mem_cons_of_mem _ hp) hw, ih _ (listed.setIfInBounds j true) a' w' hfree' (ready_mono hr (Ne.symm hji)) h3.1 (h3.2.1 (i, S) (List.mem_cons_self ..) hnw) (fun p hp => ?_) ?_⟩) h2
      · rw [List.mem_filter] at hp
        exact h3.2.1 p (List.mem_cons_of_mem _ hp.1) (by simpa using hp.2)
      · rw [Array.setIfInBounds_comm _ _ hji]
        have := h3.2.2
        rw [List.filter_cons_of_pos (by simp [hnw])] at this
        exact this
theorem wpAnyX_done {listed : Array Bool} {a : Act} {w : World} (hr : Region.ready md ops listed = []) (h : Q .normal a w) : ∀ fuel H, wpAnyX P md ops Q fuel H listed a w
  | 0, _ => ⟨hr, h⟩
  | _ + 1, _ => ⟨fun _ => h, by rw [hr]; simp⟩
end

/-- Operations that only look. -/
def isQuiet : Op → Bool
  | .move _ | .assign _ | .pick _ _ _ | .nilCheck _ | .load _ _ | .fieldAddr _ _ _ | .field _ _ _ | .indexAddr _ _ _ | .index _ _ _ | .extract _ _ | .binOp _ _ _ _ _ | .unOp _ _ _ | .convert _ _ _ | .slice _ _ _ _ _ | .makeFunc _ _ _ | .build _ _ | .lookup _ _ _ _ | .makeInterface _ _ | .typeAssert _ _ _ _ => true
  | .call ⟨.builtin .len, _, _⟩ | .call ⟨.builtin .min, _, _⟩ | .call ⟨.builtin .max, _, _⟩ | .call ⟨.builtin .cap, _, _⟩ => true
  | _ => false
/-- Is that an order in which the region may be read? 'true': taken first, it only looks. -/
def validS (ops : Array Oper) : Array Bool → List (Nat × Bool) → Bool
  | listed, [] => (Region.ready .any ops listed).isEmpty
  | listed, (i, true) :: r => (Region.ready .any ops listed).contains i && Region.free .any ops listed i && validS ops (listed.setIfInBounds i true) r
  | listed, (i, false) :: r => (Region.ready .any ops listed == [i]) && validS ops (listed.setIfInBounds i true) r
def greedy (ops : Array Oper) : Nat → Array Bool → List (Nat × Bool)
  | 0, _ => []
  | n + 1, listed => match Region.ready .any ops listed with
    | [] => []
    | i :: rs => match (i :: rs).find? (fun j => ((ops[j]?).map fun o => isQuiet o.op).getD false && Region.free .any ops listed j) with
      | some j => (j, true) :: greedy ops n (listed.setIfInBounds j true)
      | none => (i, false) :: greedy ops n (listed.setIfInBounds i true)
/-- Is that an order for a region? -/
def schedOk (ops : Array Oper) (st : List (Nat × Bool)) : Bool := Region.noSelect ops && decide (st.length ≤ ops.size) && validS ops (Array.replicate ops.size false) st
def liveAt (h : List AObj) (i : Nat) : Bool := match h[i]? with
  | some x => x.live
  | none => false
def okHold (o : Oper) (h : List AObj) (touch : List Nat) (p : Nat × Nat) : Bool := (o.after.any fun e => Region.binds .any e && e.on == p.1) || (!touch.elem p.2 && liveAt h p.2)
def aregS (P : Program) (call : Nat → List AV → List AObj → Option (AV × List AObj)) (okf : Nat → Bool) (tab : List SF) (n : Nat) (rs : List Nat) (ops : Array Oper) : List (Nat × Bool) → List (Nat × Nat) → Env → List AObj → Option (AExit × Env × List AObj)
  | [], _, sl, h => some (.normal, sl, h)
  | (i, q) :: r, holds, sl, h => match ops[i]? with
    | none => none
    | some o => match wantA ops sl o with
      | some true => match q with
        | true => match qopX tab P o.op o.type (aev sl) h with
          | some (v, d) => aregS P call okf tab n rs ops r (match d with | some b => (i, b) :: holds | none => holds) (putA n sl o.dst v) h
          | none => none
        | false => match actA P call okf tab o sl h with
          | some (v, h', touch) => match panOf v with
            | none => if holds.all (okHold o h touch) then aregS P call okf tab n rs ops r (holds.filter fun p => !(o.after.any fun e => Region.binds .any e && e.on == p.1)) (putA n sl o.dst v) h' else none
            | some x => some (.pan, panE n rs sl x, h')
          | none => none
      | some false => match q with
        | true => aregS P call okf tab n rs ops r holds (putA n sl o.dst (.tup [])) h
        | false => aregS P call okf tab n rs ops r (holds.filter fun p => !(o.after.any fun e => Region.binds .any e && e.on == p.1)) (putA n sl o.dst (.tup [])) h
      | none => none

section
variable {P : Program} {call : Nat → List AV → List AObj → Option (AV × List AObj)} {okf : Nat → Bool} {tab : List SF} {R : Nat → PV} {ops : Array Oper} {Q : Exit → Act → World → Prop}

/-- The conditions that are held, and what they hang on. -/
def Holds (K : Kn) (w : World) (holds : List (Nat × Nat)) (H : List (Nat × (World → Prop))) : Prop :=
  ∀ p ∈ H, p.2 w ∧ ∃ dep : Option Nat, (∀ b, dep = some b → (p.1, b) ∈ holds) ∧ ∀ w' : World, (∀ g o c, K.M g o = some c → w'.cell? ⟨g, o, none⟩ = some c) → (∀ i, dep = some i → ∀ g, K.mu i = some g → w'.heap[g]? = w.heap[g]?) → p.2 w'
theorem aregS_sound (hcall : CallsOk R P call) (htab : TabOk R P tab) (hok : ∀ f, okf f = true → callable P f = true) (hsel : Region.noSelect ops = true) (hQp : ∀ (i : Nat) (oi : Oper), ops[i]? = some oi → ∀ c (a : Act) v w, Q (.panic c) (a.put oi.dst v) w → Q (.panic c) a w) {n : Nat} {rs : List Nat} {ex : AExit} :
    ∀ (st : List (Nat × Bool)) (listed : Array Bool) (holds : List (Nat × Nat)) (sl : Env) (h : List AObj) (sl' : Env) (h' : List AObj) (fuel : Nat) (H : List (Nat × (World → Prop))) (K : Kn) (w : World) (a : Act),
      validS ops listed st = true → st.length ≤ fuel → aregS P call okf tab n rs ops st holds sl h = some (ex, sl', h') → K.R = R → WR K h w → EnvOk K n sl a.tmps → Holds K w holds H →
      (∀ e K' a' w' tm, OutIs n ex e a' tm → EnvOk K' n sl' tm → a'.defers = a.defers → Step K h w K' h' w' → Q e a' w') → wpAnyX P .any ops Q fuel H listed a w
  | [], listed, holds, sl, h, sl', h', fuel, H, K, w, a, hv, _, he, hR, W, hs, _, hq => by
    cases he
    refine wpAnyX_done (by simpa [validS] using hv) ?_ fuel H
    exact hq .normal K a w _ ⟨rfl, rfl⟩ hs rfl (Step.refl W)
  | (i, q) :: r, listed, holds, sl, h, sl', h', 0, H, K, w, a, hv, hf, he, hR, W, hs, hh, hq => by simp at hf
  | (i, q) :: r, listed, holds, sl, h, sl', h', fuel + 1, H, K, w, a, hv, hf, he, hR, W, hs, hh, hq => by
    rw [aregS] at he
    split at he
    · cases he
    · rename_i o ho
      have hfl : r.length ≤ fuel := by simpa using hf
      cases q with
      | true =>
        rw [validS, Bool.and_eq_true, Bool.and_eq_true] at hv
        obtain ⟨⟨hr, hfr⟩, hv⟩ := hv
        have hr' : i ∈ Region.ready .any ops listed := by simpa using hr
        split at he
        · rename_i hw
          have hwant := wantA_sound hs hw
          simp only at he
          split at he
          · rename_i v d hqo
            obtain ⟨u, hvu, hrun⟩ := qopX_sound (o := o) (ρ := a.eval) htab hR W (fun x v hx => aev_sound hs hx) hqo
            obtain ⟨p1, p2⟩ := putA_sound hs hvu o.dst
            refine wpAnyX_first (S := fun w' => (∀ g o c, K.M g o = some c → w'.cell? ⟨g, o, none⟩ = some c) ∧ (∀ i, d = some i → ∀ g, K.mu i = some g → w'.heap[g]? = w.heap[g]?)) (v := u) ho (Region.noSelect_spec hsel) (fun c a w => hQp i o ho c a _ w) fuel H listed a w (Region.free_spec ho hfr) hr'
              (.inl ⟨hwant, fun w' hS => hrun w' hS.1 hS.2⟩) ⟨W.agr, fun _ _ _ _ => rfl⟩ (fun p hp => (hh p hp).1) ?_
            refine aregS_sound hcall htab hok hsel hQp r _ _ _ _ sl' h' fuel _ K w _ hv hfl he hR W p1 (fun p hp => ?_) (fun e2 K2 a2 w2 tm2 q0 q1 q2 q3 => hq e2 K2 a2 w2 tm2 q0 q1 (q2.trans p2) q3)
            rcases List.mem_cons.1 hp with rfl | hp
            · refine ⟨⟨W.agr, fun _ _ _ _ => rfl⟩, d, fun b hb => ?_, fun w' h1 h2 => ⟨h1, h2⟩⟩
              subst hb
              exact List.mem_cons_self ..
            · obtain ⟨h1, dep, h2, h3⟩ := hh p hp
              refine ⟨h1, dep, fun b hb => ?_, h3⟩
              cases d with
              | none => exact h2 b hb
              | some b' => exact List.mem_cons_of_mem _ (h2 b hb)
          · cases he
        · rename_i hw
          have hwant := wantA_sound hs hw
          simp only at he
          obtain ⟨p1, p2⟩ := putA_sound hs (VR.undef K) o.dst
          refine wpAnyX_first (S := fun _ => True) (v := Go.undef) ho (Region.noSelect_spec hsel) (fun c a w => hQp i o ho c a _ w) fuel H listed a w (Region.free_spec ho hfr) hr'
            (.inr ⟨hwant, rfl⟩) trivial (fun p hp => (hh p hp).1) ?_
          refine aregS_sound hcall htab hok hsel hQp r _ _ _ _ sl' h' fuel _ K w _ hv hfl he hR W p1 (fun p hp => ?_) (fun e2 K2 a2 w2 tm2 q0 q1 q2 q3 => hq e2 K2 a2 w2 tm2 q0 q1 (q2.trans p2) q3)
          rcases List.mem_cons.1 hp with rfl | hp
          · exact ⟨trivial, none, (fun b hb => by cases hb), fun _ _ _ => trivial⟩
          · exact hh p hp
        · cases he
      | false =>
        rw [validS, Bool.and_eq_true] at hv
        obtain ⟨hr, hv⟩ := hv
        have hr' : Region.ready .any ops listed = [i] := by simpa using hr
        have hwo : ∀ k, waitsOn ops .any i k = o.after.any fun e => Region.binds .any e && e.on == k := fun k => by unfold waitsOn; rw [ho]
        refine ⟨(fun h => by rw [hr'] at h; cases h), fun j hj => ?_⟩
        rw [hr'] at hj
        have hji : j = i := by simpa using hj
        subst hji
        unfold wpOp
        rw [ho]
        simp only
        split at he
        · rename_i hw
          rw [wantA_sound hs hw]
          simp only [if_true]
          simp only at he
          split at he
          · rename_i v h1 touch ha
            split at he
            rotate_left
            · rename_i x hpx
              cases he
              refine .inl (actA_sound hcall htab hok ha hR W hs (fun K' w' u hpn _ _ _ => (by rw [hpx] at hpn; cases hpn)) (fun y K' w' u hpy hv hst => ?_))
              rw [hpx] at hpy
              cases hpy
              exact hq _ K' a w' _ ⟨hs.1, u, rfl, rfl⟩ (panE_sound (hs.mono hst.ext) hv) rfl hst
            rename_i hpn0
            split at he
            · rename_i hall
              refine .inl (actA_sound hcall htab hok ha hR W hs (fun K' w' u hpn hvu hst hfrm => ?_) (fun y K' w' u hpy _ _ => (by rw [hpn0] at hpy; cases hpy)))
              obtain ⟨p1, p2⟩ := putA_sound (hs.mono hst.ext) hvu o.dst
              have hkeep : ∀ p ∈ H, waitsOn ops .any j p.1 = false → p.2 w' ∧ ∃ dep : Option Nat, (∀ b, dep = some b → (p.1, b) ∈ holds) ∧ ∀ w'' : World, (∀ g o c, K'.M g o = some c → w''.cell? ⟨g, o, none⟩ = some c) → (∀ i, dep = some i → ∀ g, K'.mu i = some g → w''.heap[g]? = w'.heap[g]?) → p.2 w'' := by
                intro p hp hnw
                obtain ⟨h1', dep, h2, h3⟩ := hh p hp
                have hblk : ∀ i, dep = some i → ∀ g, K.mu i = some g → w'.heap[g]? = w.heap[g]? := by
                  intro b hb g hg
                  have hm := h2 b hb
                  rw [List.all_eq_true] at hall
                  have hoh := hall _ hm
                  unfold okHold at hoh
                  rw [Bool.or_eq_true] at hoh
                  rcases hoh with hoh | hoh
                  · rw [hwo] at hnw
                    simp only at hoh
                    rw [hnw] at hoh; cases hoh
                  · rw [Bool.and_eq_true] at hoh
                    obtain ⟨ho1, ho2⟩ := hoh
                    refine hfrm.block g (W.lt b g hg) ?_
                    rintro ⟨t, x, ht, hx, hlx, hmt⟩
                    obtain ⟨y, hbx, hly⟩ : ∃ y, h[b]? = some y ∧ y.live = true := by
                      unfold liveAt at ho2
                      split at ho2
                      · rename_i y hc; exact ⟨y, hc, ho2⟩
                      · cases ho2
                    have := W.inj t b x y g hx hbx hlx hly hmt hg
                    subst this
                    simp [ht] at ho1
                refine ⟨h3 w' (fun g o c hm => hst.wr.agr g o c (hst.ext.M g o c hm)) hblk, dep, h2, fun w'' g1 g2 => h3 w'' (fun g o c hm => g1 g o c (hst.ext.M g o c hm)) (fun i hi g hg => ?_)⟩
                rw [g2 i hi g (hst.ext.mu i g hg)]; exact hblk i hi g hg
              refine ⟨fun p hp hnw => (hkeep p hp hnw).1, ?_⟩
              refine aregS_sound hcall htab hok hsel hQp r _ _ _ _ sl' h' fuel _ K' w' _ hv hfl he (hst.ext.R.trans hR) hst.wr p1 (fun p hp => ?_) (fun e2 K2 a2 w2 tm2 q0 q1 q2 q3 => hq e2 K2 a2 w2 tm2 q0 q1 (q2.trans p2) (hst.trans q3))
              rw [List.mem_filter] at hp
              have hnw : waitsOn ops .any j p.1 = false := by simpa using hp.2
              obtain ⟨k1, dep, k2, k3⟩ := hkeep p hp.1 hnw
              refine ⟨k1, dep, fun b hb => ?_, k3⟩
              rw [List.mem_filter]
              exact ⟨k2 b hb, by rw [hwo] at hnw; simp only; rw [hnw]; rfl⟩
            · cases he
          · cases he
        · rename_i hw
          rw [wantA_sound hs hw]
          simp only [Bool.false_eq_true, if_false]
          simp only at he
          obtain ⟨p1, p2⟩ := putA_sound hs (VR.undef K) o.dst
          refine ⟨fun p hp _ => (hh p hp).1, ?_⟩
          refine aregS_sound hcall htab hok hsel hQp r _ _ _ _ sl' h' fuel _ K w _ hv hfl he hR W p1 (fun p hp => ?_) (fun e2 K2 a2 w2 tm2 q0 q1 q2 q3 => hq e2 K2 a2 w2 tm2 q0 q1 (q2.trans p2) q3)
          rw [List.mem_filter] at hp
          have hnw : waitsOn ops .any j p.1 = false := by simpa using hp.2
          obtain ⟨k1, dep, k2, k3⟩ := hh p hp.1
          refine ⟨k1, dep, fun b hb => ?_, k3⟩
          rw [List.mem_filter]
          exact ⟨k2 b hb, by rw [hwo] at hnw; simp only; rw [hnw]; rfl⟩
        · cases he
theorem areg_draw (hcall : CallsOk R P call) (htab : TabOk R P tab) (hok : ∀ f, okf f = true → callable P f = true) (hm : P.follows .mixedOrders = true) (hQp : ∀ (i : Nat) (oi : Oper), ops[i]? = some oi → ∀ c (a : Act) v w, Q (.panic c) (a.put oi.dst v) w → Q (.panic c) a w) {n id : Nat} {rs : List Nat} {st : List (Nat × Bool)} (hst : schedOk ops st = true)
    {sl : Env} {h : List AObj} {ex : AExit} {sl' : Env} {h' : List AObj} (he : aregS P call okf tab n rs ops st [] sl h = some (ex, sl', h')) {K : Kn} {w : World} {a : Act} (hR : K.R = R) (W : WR K h w) (hs : EnvOk K n sl a.tmps)
    (hq : ∀ e K' a' w' tm, OutIs n ex e a' tm → EnvOk K' n sl' tm → a'.defers = a.defers → Step K h w K' h' w' → Q e a' w') : (Code.region id ops true).wp P Q a w := by
  unfold schedOk at hst
  rw [Bool.and_eq_true, Bool.and_eq_true] at hst
  obtain ⟨⟨h1, h2⟩, h3⟩ := hst
  refine wp_region_any hm (wpAny_of_X _ [] _ _ _ ?_)
  have hd : Step K h w K h w.drew := ⟨W.same rfl, Ext.refl K, ⟨rfl, rfl, rfl, Nat.le_refl _, fun _ _ _ => rfl⟩, fun _ _ => ⟨rfl, rfl⟩, fun _ _ _ _ => rfl, fun _ _ h => .inl h, fun _ h _ => h, Nat.le_refl _⟩
  exact aregS_sound hcall htab hok h1 hQp _ _ [] sl h sl' h' ops.size [] K w.drew a h3 (by simpa using h2) he hR hd.wr hs (fun p hp => by cases hp) (fun e K' a' w' tm q0 q1 q2 q3 => hq e K' a' w' tm q0 q1 q2 (hd.trans q3))
end
end Go.Proofs.YtjpjcjnacnlhdaaGreat
