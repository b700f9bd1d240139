/- Code: names and values; loops. -/
import Derived.Test.YtjpjcjnacnlhdaaGreatAbV
namespace Go.Proofs.YtjpjcjnacnlhdaaGreat
open Go.RowKit

def openE (R : Nat → PV) : Env → Env
  | [] => []
  | (d, v) :: e => (d, openAV R v) :: openE R e
theorem look_openE (R : Nat → PV) : ∀ (e : Env) (d : Nat), look (openE R e) d = (look e d).map (openAV R)
  | [], _ => rfl
  | (k, v) :: r, d => by
    show (match Nat.beq k d with | true => some (openAV R v) | false => look (openE R r) d) = Option.map (openAV R) (match Nat.beq k d with | true => some v | false => look r d)
    cases Nat.beq k d with
    | true => rfl
    | false => exact look_openE R r d
theorem look_mem {d : Nat} {v : AV} : ∀ {e : Env}, look e d = some v → (d, v) ∈ e
  | [], h => by cases h
  | (k, u) :: r, h => by
    simp only [look] at h
    split at h
    · rename_i hb
      cases h
      rw [← Nat.eq_of_beq_eq_true hb]; exact List.mem_cons_self ..
    · exact List.mem_cons_of_mem _ (look_mem h)
theorem EnvOk.openE {K : Kn} {n : Nat} {e : Env} {tm : Array Value} (h : EnvOk K n e tm) : EnvOk K n (openE K.R e) tm := by
  refine ⟨h.1, fun d v hd => ?_⟩
  rw [look_openE] at hd
  obtain ⟨u, hu, e⟩ := map_some' hd
  subst e
  exact (h.2 d u hu).opened rfl
theorem EnvOk.closeE {K : Kn} {n : Nat} {e : Env} {tm : Array Value} (h : EnvOk K n (YtjpjcjnacnlhdaaGreat.openE K.R e) tm) : EnvOk K n e tm := by
  refine ⟨h.1, fun d v hd => ?_⟩
  exact VR.closed rfl (h.2 d (openAV K.R v) (by rw [look_openE, hd]; rfl))
def NSE (e : Env) : Prop := ∀ p ∈ e, NSA p.2
theorem EnvOk.swap {K : Kn} {R : Nat → PV} {n : Nat} {e : Env} {tm : Array Value} (h : EnvOk K n e tm) (hn : NSE e) : EnvOk (K.re R) n e tm := ⟨h.1, fun d v hd => (h.2 d v hd).swap (hn _ (look_mem hd))⟩
section
variable {P : Program} {n : Nat} {c : Code} {sl sl' : Env} {h h' : List AObj} {ex : AExit} {R : Nat → PV}

/-- Less of the slots is asked, or less is told. -/
def EnvLe (e e' : Env) : Prop := ∀ d v, look e d = some v → look e' d = some v
theorem EnvOk.le {K : Kn} {e e' : Env} {tm : Array Value} (h : EnvOk K n e' tm) (hl : EnvLe e e') : EnvOk K n e tm := ⟨h.1, fun d v hd => h.2 d v (hl d v hd)⟩
theorem CodeOk.weak {sl0 sl1 : Env} (hc : CodeOk R P n c sl0 h ex sl1 h') (h0 : EnvLe sl0 sl) (h1 : EnvLe sl' sl1) : CodeOk R P n c sl h ex sl' h' := by
  intro K w a hR W hs
  refine wp_mono (hc K w a hR W (hs.le h0)) fun e a' w' hp => ?_
  obtain ⟨tm, q0, K', q1, q2, q3⟩ := hp
  exact ⟨tm, q0, K', q1.le h1, q2, q3⟩
theorem CodeOk.to {R R' : Nat → PV} {sla sla' : Env} {ha ha' : List AObj} (hc : CodeOk R' P n c sla ha ex sla' ha')
    (he : ∀ K tm, K.R = R → EnvOk K n sl tm → EnvOk (K.re R') n sla tm) (hh : ∀ K, K.R = R → HSame K (K.re R') h ha) (hh' : ∀ K, K.R = R' → HSame K (K.re R) ha' h')
    (he' : ∀ K tm, K.R = R' → EnvOk K n sla' tm → EnvOk (K.re R) n sl' tm) : CodeOk R P n c sl h ex sl' h' := by
  intro K w a hR W hs
  have h1 := hh K hR
  refine wp_mono (hc (K.re R') w a rfl (W.of_same h1) (he K _ hR hs)) fun e a' w' hp => ?_
  obtain ⟨tm, q0, K', q1, q2, q3⟩ := hp
  have hR' : K'.R = R' := q3.ext.R
  have h2 := hh' K' hR'
  have e' := he' K' _ hR' q1
  subst hR
  exact ⟨tm, q0, K'.re K.R, e', q2, Step.of_same h1 q3 h2⟩
theorem CodeOk.names (hc : ∀ R', CodeOk R' P n c (openE R sl) (h.map (openO R)) ex (openE R sl') (h'.map (openO R)))
    (n1 : ∀ x ∈ h.map (openO R), NSO x) (n2 : ∀ x ∈ h'.map (openO R), NSO x) : CodeOk R P n c sl h ex sl' h' := by
  refine (hc R).to (fun K tm hR hv => ?_) (fun K hR => ?_) (fun K hR => ?_) (fun K tm hR hv => ?_)
  · subst hR; exact hv.openE
  · subst hR; exact HSame.opened n1
  · subst hR; exact HSame.closed n2
  · subst hR; exact EnvOk.closeE hv
/-- A piece of code, seen from an earlier state; m0 objects stay in their places. -/
def CodeB (R : Nat → PV) (P : Program) (n : Nat) (c : Code) (m0 : Nat) (sl : Env) (h : List AObj) (ex : AExit) (sl' : Env) (h' : List AObj) : Prop :=
  ∀ (K0 : Kn) (h0 : List AObj) (w0 : World) (a0 : Act) (K : Kn) (w : World) (a : Act), h0.length = m0 → (∀ x ∈ h0, NSO x) → K.R = R → WR K0 h0 w0 → Step K0 h0 w0 K h w → a.defers = a0.defers → EnvOk K n sl a.tmps →
    c.wp P (Post K0 n h0 w0 a0 ex sl' h') a w
theorem CodeOk.toB {m0 : Nat} {sl1 : Env} {h1 : List AObj} {ids ks : List Nat} (hb : CodeOk R P n c sl h ex sl1 h1) (hn : nodupB ids = true) (hp : ids.take m0 = List.range m0) (hh : subH h1 ids = some h') :
    CodeB R P n c m0 sl h ex (compE (fun i => posOf i ids) sl1 ks) h' := by
  intro K0 h0 w0 a0 K w a hm _ hR W S hd hs
  refine wp_mono (hb K w a hR S.wr hs) fun e a1 w1 hq => ?_
  obtain ⟨tm, q0, K1, q1, q2, q3⟩ := hq
  subst hm
  have S2 := Step.sub W (S.trans q3) hn hh (fun k hk => range_at hp k hk)
  exact ⟨tm, q0, K1.sub ids, q1.comp (Ren.sub K1 ids) ks, q2.trans hd, S2⟩
theorem CodeB.values {m0 : Nat} (hc : CodeB R P n c m0 sl h ex sl' h') (a1 : NSE (openE R sl)) (a2 : NSE (openE R sl')) (n1 : ∀ x ∈ h.map (openO R), NSO x) (n2 : ∀ x ∈ h'.map (openO R), NSO x) (R' : Nat → PV) :
    CodeB R' P n c m0 (openE R sl) (h.map (openO R)) ex (openE R sl') (h'.map (openO R)) := by
  intro K0 h0 w0 a0 K w a hm hns hR W S hd hs
  have s0 : HSame K0 (K0.re R) h0 h0 := HSame.plain hns
  have s0' : HSame (K0.re R) K0 h0 h0 := HSame.plain (K := K0.re R) (R := K0.R) hns
  have S1 : Step (K0.re R) h0 w0 (K.re R) h w := Step.of_same s0' S (HSame.closed n1)
  refine wp_mono (hc (K0.re R) h0 w0 a0 (K.re R) w a hm hns rfl (W.of_same s0) S1 hd (EnvOk.closeE (K := K.re R) (hs.swap a1))) fun e a' w' hp => ?_
  obtain ⟨tm, q0, K', q1, q2, q3⟩ := hp
  have hR' : K'.R = R := q3.ext.R
  subst hR'
  exact ⟨tm, q0, K'.re K0.R, q1.openE.swap a2, q2, Step.of_same s0 q3 (HSame.opened n2)⟩
/-- A loop from the head of a round on, seen from the state before it. -/
def LoopB (R : Nat → PV) (P : Program) (n : Nat) (c : Code) (m0 : Nat) (sl : Env) (h : List AObj) (ex : AExit) (sl' : Env) (h' : List AObj) : Prop :=
  ∃ m, ∀ (K0 : Kn) (h0 : List AObj) (w0 : World) (a0 : Act) (K : Kn) (w : World) (a : Act), h0.length = m0 → (∀ x ∈ h0, NSO x) → K.R = R → WR K0 h0 w0 → Step K0 h0 w0 K h w → a.defers = a0.defers → EnvOk K n sl a.tmps →
    Code.rounds P c (Post K0 n h0 w0 a0 ex sl' h') m a w
theorem LoopB.again {m0 : Nat} {sl1 : Env} {h1 : List AObj} (hb : CodeB R P n c m0 sl h .normal sl1 h1) (hl : LoopB R P n c m0 sl1 h1 ex sl' h') : LoopB R P n c m0 sl h ex sl' h' := by
  obtain ⟨m, hm⟩ := hl
  refine ⟨m + 1, fun K0 h0 w0 a0 K w a h1 h2 h3 h4 h5 h6 h7 => ?_⟩
  rw [rounds_succ]
  refine wp_mono (hb K0 h0 w0 a0 K w a h1 h2 h3 h4 h5 h6 h7) fun e a1 w1 hq => ?_
  obtain ⟨tm, ⟨rfl, rfl⟩, K1, q1, q2, q3⟩ := hq
  exact hm K0 h0 w0 a0 K1 w1 a1 h1 h2 (by rw [q3.ext.R, ← h5.ext.R]; exact h3) h4 q3 q2 q1
theorem LoopB.done {m0 : Nat} (hb : CodeB R P n c m0 sl h ex sl' h') (hx : ex ≠ .normal) : LoopB R P n c m0 sl h ex sl' h' := by
  refine ⟨1, fun K0 h0 w0 a0 K w a h1 h2 h3 h4 h5 h6 h7 => ?_⟩
  rw [rounds_succ]
  refine wp_mono (hb K0 h0 w0 a0 K w a h1 h2 h3 h4 h5 h6 h7) fun e a1 w1 hp => ?_
  have hp' := hp
  obtain ⟨tm, ho, _⟩ := hp'
  cases ex with
  | normal => exact absurd rfl hx
  | exit id => obtain ⟨rfl, _⟩ := ho; exact hp
  | ret => obtain ⟨rfl, _⟩ := ho; exact hp
  | pan => obtain ⟨_, u, rfl, _⟩ := ho; exact hp
theorem LoopB.weak {m0 : Nat} {sl0 : Env} (hl : LoopB R P n c m0 sl0 h ex sl' h') (h0 : EnvLe sl0 sl) : LoopB R P n c m0 sl h ex sl' h' := by
  obtain ⟨m, hm⟩ := hl
  exact ⟨m, fun K0 h0' w0 a0 K w a h1 h2 h3 h4 h5 h6 h7 => hm K0 h0' w0 a0 K w a h1 h2 h3 h4 h5 h6 (h7.le h0)⟩
theorem LoopB.block {id : Nat} (hn : ∀ x ∈ h, NSO x) (hl : LoopB R P n c h.length sl h (.exit id) sl' h') : CodeOk R P n (.block id (.loop c)) sl h .normal sl' h' := by
  obtain ⟨m, hm⟩ := hl
  intro K w a hR W hs
  refine wp_block (wp_mono (wp_loop_rounds m (hm K h w a K w a rfl hn hR W (Step.refl W) rfl hs)) fun e a1 w1 hp => ?_)
  obtain ⟨tm, ⟨rfl, rfl⟩, K1, q1, q2, q3⟩ := hp
  show (if id = id then _ else _)
  rw [if_pos rfl]
  exact ⟨_, ⟨rfl, rfl⟩, K1, q1, q2, q3⟩
theorem LoopB.blockRet {id : Nat} (hn : ∀ x ∈ h, NSO x) (hl : LoopB R P n c h.length sl h .ret sl' h') : CodeOk R P n (.block id (.loop c)) sl h .ret sl' h' := by
  obtain ⟨m, hm⟩ := hl
  intro K w a hR W hs
  refine wp_block (wp_mono (wp_loop_rounds m (hm K h w a K w a rfl hn hR W (Step.refl W) rfl hs)) fun e a1 w1 hp => ?_)
  have hp' := hp
  obtain ⟨tm, ⟨rfl, _⟩, _⟩ := hp'
  exact hp
theorem LoopB.blockPan {id : Nat} (hn : ∀ x ∈ h, NSO x) (hl : LoopB R P n c h.length sl h .pan sl' h') : CodeOk R P n (.block id (.loop c)) sl h .pan sl' h' := by
  obtain ⟨m, hm⟩ := hl
  intro K w a hR W hs
  refine wp_block (wp_mono (wp_loop_rounds m (hm K h w a K w a rfl hn hR W (Step.refl W) rfl hs)) fun e a1 w1 hp => ?_)
  have hp' := hp
  obtain ⟨tm, ⟨_, u, rfl, _⟩, _⟩ := hp'
  exact hp
theorem LoopB.blockOut {id j : Nat} (hne : j ≠ id) (hn : ∀ x ∈ h, NSO x) (hl : LoopB R P n c h.length sl h (.exit j) sl' h') : CodeOk R P n (.block id (.loop c)) sl h (.exit j) sl' h' := by
  obtain ⟨m, hm⟩ := hl
  intro K w a hR W hs
  refine wp_block (wp_mono (wp_loop_rounds m (hm K h w a K w a rfl hn hR W (Step.refl W) rfl hs)) fun e a1 w1 hp => ?_)
  have hp' := hp
  obtain ⟨tm, ⟨rfl, _⟩, _⟩ := hp'
  show (if j = id then _ else _)
  rw [if_neg hne]
  exact hp
end
end Go.Proofs.YtjpjcjnacnlhdaaGreat
