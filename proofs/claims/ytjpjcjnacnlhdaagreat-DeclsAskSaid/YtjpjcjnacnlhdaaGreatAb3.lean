/- Operations that only look: what they give, abstractly, and that it is so. -/
import Derived.Test.YtjpjcjnacnlhdaaGreatAb2
namespace Go.Proofs.YtjpjcjnacnlhdaaGreat
open Go.RowKit

/-- What a Sem gives that looks at nothing but the program. -/
def pureRun {α : Type} (P : Program) : Sem α → Option α
  | .pure a => some a
  | .program k => pureRun P (k P)
  | .mark _ k => pureRun P k
  | _ => none
theorem pureRun_run {α : Type} {P : Program} {s : Sem α} {a : α} (h : pureRun P s = some a) (w : World) : s.run P w = .ok a w := by
  induction s with
  | pure b => simp only [pureRun] at h; cases h; rfl
  | program k ih => simp only [pureRun] at h; simp only [Sem.run]; exact ih P h
  | mark m k ih => simp only [pureRun] at h; simp only [Sem.run]; exact ih h
  | _ => simp [pureRun] at h

/-- What is known of a frame's slots. -/
abbrev Env := List (Nat × AV)
def look : Env → Nat → Option AV
  | [], _ => none
  | (k, v) :: r, d => match Nat.beq k d with
    | true => some v
    | false => look r d
/-- An operand's abstract value. -/
def aev (sl : Env) : Operand → Option AV
  | .tmp t => look sl t
  | .const v => if plainV v then some (.pv (.lit v)) else none
  | .func f => some (.fn f [])
  | .global _ => none
theorem VR.undef (K : Kn) : VR K (.tup []) Go.undef := .tup [] [] rfl (fun i h => by simp at h)
def EnvOk (K : Kn) (n : Nat) (e : Env) (tm : Array Value) : Prop := n ≤ tm.size ∧ ∀ d v, look e d = some v → VR K v (tm.getD d Go.undef)
theorem EnvOk.mono {K K' : Kn} {n : Nat} {e : Env} {tm : Array Value} (h : EnvOk K n e tm) (x : Ext K K') : EnvOk K' n e tm := ⟨h.1, fun d v hd => (h.2 d v hd).mono x⟩
theorem aev_sound {K : Kn} {n : Nat} {sl : Env} {a : Act} (h : EnvOk K n sl a.tmps) {x : Operand} {v : AV} (hx : aev sl x = some v) : VR K v (a.eval x) := by
  cases x with
  | tmp t => exact h.2 t v hx
  | const c =>
    simp only [aev] at hx
    split at hx
    · rename_i hp; cases hx; exact .pv (.lit c hp)
    · cases hx
  | func f => simp only [aev] at hx; cases hx; exact .fn f [] [] rfl (fun i h => by simp at h)
  | global g => simp [aev] at hx

/-- The value that an abstract value stands for, if it holds no address. -/
def litV : AV → Option Value
  | .pv (.lit v) => some v
  | _ => none
def litL : List AV → Option (List Value)
  | [] => some []
  | a :: l => match litV a, litL l with
    | some v, some vs => some (v :: vs)
    | _, _ => none
def AV.val? : AV → Option Value
  | .pv (.lit v) => some v
  | .agg l => (litL l).map fun vs => .agg vs.toArray
  | _ => none
theorem litV_eq {K : Kn} {a : AV} {v u : Value} (h : VR K a v) (hu : litV a = some u) : v = u := by
  cases h with
  | pv h => cases h with
    | lit v hp => cases hu; rfl
    | _ => cases hu
  | _ => cases hu
theorem litL_eq {K : Kn} : ∀ {l : List AV} {cs us : List Value}, VL K l cs → litL l = some us → cs = us
  | [], cs, us, h, hu => by
    cases hu
    exact List.eq_nil_of_length_eq_zero h.1.symm
  | a :: l, [], us, h, _ => by have := h.1; simp at this
  | a :: l, c :: cs, us, h, hu => by
    rw [litL] at hu
    split at hu
    · rename_i v vs h1 h2
      cases hu
      have e1 := litV_eq (h.2 0 (by simp) (by simp)) h1
      have e2 := litL_eq (cs := cs) ⟨by simpa using h.1, fun i hi hi' => h.2 (i + 1) (by simpa using hi) (by simpa using hi')⟩ h2
      simp only [List.getElem_cons_zero] at e1
      rw [e1, e2]
    · cases hu
theorem val_eq {K : Kn} {a : AV} {v u : Value} (h : VR K a v) (hu : a.val? = some u) : v = u := by
  cases h with
  | pv h => cases h with
    | lit v hp => cases hu; rfl
    | _ => cases hu
  | agg l cs hl h =>
    simp only [AV.val?] at hu
    cases hL : litL l with
    | none => rw [hL] at hu; cases hu
    | some vs =>
      rw [hL] at hu
      cases hu
      rw [litL_eq ⟨hl, h⟩ hL]
  | _ => cases hu
/-- A plain value, as an abstract one. -/
def ofVal (v : Value) : Option AV := if plainV v then some (.pv (.lit v)) else none
theorem ofVal_sound {K : Kn} {v : Value} {a : AV} (h : ofVal v = some a) : VR K a v := by
  unfold ofVal at h
  split at h
  · rename_i hp; cases h; exact .pv (.lit v hp)
  · cases h

def szA (P : Program) (t : TypeId) : Option Nat := (P.info? t).map (·.size)
def aggA (P : Program) (t : TypeId) : Option Bool := match P.underlying t with
  | some (.struct _) | some (.array _ _) => some true
  | some _ => some false
  | none => none
theorem szA_run {P : Program} {t : TypeId} {n : Nat} (h : szA P t = some n) (w : World) : (sizeOf t).run P w = .ok n w := by
  unfold szA at h
  cases hi : P.info? t with
  | none => rw [hi] at h; cases h
  | some i => rw [hi] at h; cases h; simp [sizeOf, typeInfo, hi]
theorem aggA_run {P : Program} {t : TypeId} {b : Bool} (h : aggA P t = some b) (w : World) : (isAgg t).run P w = .ok b w := by
  unfold aggA at h
  cases hu : P.underlying t with
  | none => rw [hu] at h; cases h
  | some d =>
    rw [hu] at h
    cases d <;> (cases h; simp [isAgg, run_underlying hu])

/-- A variable's value, of the cells from its address on. -/
def loadA (P : Program) (t : TypeId) (l : List AV) : Option AV :=
  match aggA P t with
  | some true => match szA P t with
    | some n => if n ≤ l.length then some (.agg (l.take n)) else none
    | none => none
  | some false => l.head?
  | none => none
theorem VL.take {K : Kn} {l : List AV} {cs : List Value} (h : VL K l cs) (n : Nat) : VL K (l.take n) (cs.take n) := by
  refine ⟨by simp [h.1], fun i hi hi' => ?_⟩
  simp only [List.getElem_take]
  exact h.2 i (by simp at hi; omega) (by simp at hi'; omega)
theorem VL.drop {K : Kn} {l : List AV} {cs : List Value} (h : VL K l cs) (n : Nat) : VL K (l.drop n) (cs.drop n) := by
  refine ⟨by simp [h.1], fun i hi hi' => ?_⟩
  simp only [List.getElem_drop]
  exact h.2 (n + i) (by simp at hi; omega) (by simp at hi'; omega)
theorem VL.append {K : Kn} {l l' : List AV} {cs cs' : List Value} (h : VL K l cs) (h' : VL K l' cs') : VL K (l ++ l') (cs ++ cs') := by
  refine ⟨by simp [h.1, h'.1], fun i hi hi' => ?_⟩
  have e1 := h.1
  have e2 := h'.1
  by_cases hl : i < l.length
  · rw [List.getElem_append_left hl, List.getElem_append_left (by omega)]
    exact h.2 i hl (by omega)
  · rw [List.getElem_append_right (by omega), List.getElem_append_right (by omega)]
    simp only [List.length_append] at hi hi'
    have := h'.2 (i - l.length) (by omega) (by omega)
    rwa [show cs'[i - cs.length]'(by omega) = cs'[i - l.length]'(by omega) from by congr 1; omega]
theorem VL.at_ {K : Kn} {l : List AV} {cs : List Value} (h : VL K l cs) {i : Nat} {a : AV} (hi : l[i]? = some a) : ∃ c, cs[i]? = some c ∧ VR K a c := by
  have hl : i < l.length := by
    by_cases hh : i < l.length
    · exact hh
    · rw [List.getElem?_eq_none (by omega)] at hi; cases hi
  rw [List.getElem?_eq_getElem hl] at hi
  cases hi
  have hl' : i < cs.length := by have := h.1; omega
  exact ⟨cs[i], List.getElem?_eq_getElem hl', h.2 i hl hl'⟩
theorem loadA_sound {P : Program} {K : Kn} {t : TypeId} {l : List AV} {cs : List Value} {v : AV} (hv : VL K l cs) (h : loadA P t l = some v) (g o : Nat) :
    ∃ u, VR K v u ∧ ∀ w : World, (∀ j c, cs[j]? = some c → w.cell? ⟨g, o + j, none⟩ = some c) → (loadVar t ⟨g, o, none⟩).run P w = .ok u w := by
  unfold loadA at h
  split at h
  · rename_i ha
    split at h
    · rename_i n hn
      split at h
      · rename_i hle
        cases h
        refine ⟨.agg (cs.take n).toArray, .agg _ _ (hv.take n).1 (hv.take n).2, fun w hc => ?_⟩
        have hlen : (cs.take n).length = n := by have := hv.1; simp; omega
        have hl := run_loadCells_list (P := P) w ⟨g, o, none⟩ (cs.take n) (fun j c hj => by
          rw [Addr.add_lit]
          rw [List.getElem?_take] at hj
          split at hj
          · exact hc j c hj
          · cases hj)
        rw [hlen] at hl
        simp [loadVar, aggA_run ha, szA_run hn, hl]
      · cases h
    · cases h
  · rename_i ha
    cases l with
    | nil => cases h
    | cons a l =>
      cases h
      obtain ⟨c, hc0, hvc⟩ := hv.at_ (i := 0) rfl
      refine ⟨c, hvc, fun w hc => ?_⟩
      have := hc 0 c hc0
      rw [Nat.add_zero] at this
      simp [loadVar, aggA_run ha, run_load, this]
  · cases h

/-- A part of an aggregate. -/
def partA (P : Program) (t : TypeId) (l : List AV) (off : Nat) : Option AV :=
  match aggA P t with
  | some true => (szA P t).map fun n => .agg ((l.drop off).take n)
  | some false => l[off]?
  | none => none
theorem partA_sound {P : Program} {K : Kn} {t : TypeId} {l : List AV} {cs : List Value} {off : Nat} {v : AV} (hv : VL K l cs) (h : partA P t l off = some v) :
    ∃ u, VR K v u ∧ ∀ w : World, (part t cs.toArray off).run P w = .ok u w := by
  unfold partA at h
  split at h
  · rename_i ha
    cases hn : szA P t with
    | none => rw [hn] at h; cases h
    | some n =>
      rw [hn] at h
      cases h
      refine ⟨.agg ((cs.drop off).take n).toArray, .agg _ _ ((hv.drop off).take n).1 ((hv.drop off).take n).2, fun w => ?_⟩
      simp [part, aggA_run ha, szA_run hn, List.extract_eq_take_drop]
  · rename_i ha
    obtain ⟨c, hc, hvc⟩ := hv.at_ h
    refine ⟨c, hvc, fun w => ?_⟩
    have : cs.toArray[off]? = some c := by simpa using hc
    simp [part, aggA_run ha, this]
  · cases h

/-- What an operation that only looks gives: in every world that agrees on the cells that never change and, if it reads a variable, on that one. -/
def Yld (P : Program) (o : Oper) (ρ : Operand → Value) (K : Kn) (w : World) (v : AV) (dep : Option Nat) : Prop :=
  ∃ u, VR K v u ∧ ∀ w' : World, (∀ g o c, K.M g o = some c → w'.cell? ⟨g, o, none⟩ = some c) → (∀ i, dep = some i → ∀ g, K.mu i = some g → w'.heap[g]? = w.heap[g]?) →
    (execOp ρ o).run P w' = .ok (.value u) w'
end Go.Proofs.YtjpjcjnacnlhdaaGreat
