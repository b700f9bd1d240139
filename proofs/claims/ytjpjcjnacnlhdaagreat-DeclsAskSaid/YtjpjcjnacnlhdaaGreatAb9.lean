/- Operations that make or write memory: 'eop', and that it is right. -/
import Derived.Test.YtjpjcjnacnlhdaaGreatAb8
namespace Go.Proofs.YtjpjcjnacnlhdaaGreat
open Go.RowKit

def toPVs : List AV → Option (List PV)
  | [] => some []
  | a :: l => match a.toPV, toPVs l with
    | some p, some r => some (p :: r)
    | _, _ => none
def chunk (sz : Nat) : Nat → List PV → List (List PV)
  | 0, _ => []
  | n + 1, l => l.take sz :: chunk sz n (l.drop sz)
def zerosA (zc : List AV) (n : Nat) : List AV := (List.range n).map fun i => zc.getD (i % zc.length) (.tup [])
def bslA (P : Program) (t : TypeId) (len : Nat) (ps : List (Nat × AV)) : Option (TypeId × Nat × List PV) := match P.underlying t with
  | some (.slice e) => match zeroA P e, szA P e with
    | some zc, some s => if 0 < s ∧ zc.length = s ∧ len * s ≤ 16777216 then match fillA (fun i => some (i * s, s)) (zerosA zc (len * s)) ps with
        | some out => match toPVs out with
          | some pvs => some (e, s, pvs)
          | none => none
        | none => none
      else none
    | _, _ => none
  | _ => none
def isNilSlice : AV → Bool
  | .pv (.lit (.slice none 0 0)) => true
  | _ => false
def bytesA (P : Program) (t : TypeId) : Option Nat := (P.info? t).map (·.bytes)
/-- The lengths of tokens are read by 'dlf' and written by 'enc'. -/
def appendG (dlf enc : Nat → Nat) (P : Program) (t : TypeId) (s : AV) (es' : List (List PV)) (h : List AObj) : Option (AV × List AObj × List Nat) := match P.underlying t with
  | some (.slice e) => match szA P e, bytesA P e, zeroA P e with
    | some sz, some by_, some zc => match es' with
      | [] => if isNilSlice s || (rowsOf s).isSome then some (s, h, []) else none
      | _ :: _ => if 0 < sz ∧ zc.length = sz ∧ es'.all (fun c => c.length == sz) then match s with
          | .trows tk es => match h[tk]? with
            | some (.tok ty sz' len) => if ty = e ∧ sz' = sz ∧ es.length = dlf len ∧ dlf len + es'.length ≤ 1000000000000 ∧ (dlf len + es'.length) * by_ ≤ 140737488355328 then
                some (.trows h.length (es ++ es'), h.set tk .dead ++ [.tok e sz (enc (dlf len + es'.length))], [tk]) else none
            | _ => none
          | s => if isNilSlice s ∧ es'.length ≤ 1000000000000 ∧ es'.length * by_ ≤ 140737488355328 then some (.trows h.length es', h ++ [.tok e sz (enc es'.length)], []) else none
        else none
    | _, _, _ => none
  | _ => none
def appendA (P : Program) (t : TypeId) (s : AV) (es' : List (List PV)) (h : List AObj) : Option (AV × List AObj × List Nat) := appendG id id P t s es' h
def eop (P : Program) (op : Op) (ρ : Operand → Option AV) (h : List AObj) : Option (AV × List AObj × List Nat) := match op with
  | .alloc t => match zeroA P t with
    | some l => some (.ptr h.length 0, h ++ [.box t l], [])
    | none => none
  | .box t x => match ρ x with
    | some v => some (.ptr h.length 0, h ++ [.box t v.cells], [])
    | none => none
  | .buildSlice t len parts => match partsA ρ parts.toList with
    | some ps => match bslA P t len ps with
      | some (e, s, pvs) => some (.trows h.length (chunk s len pvs), h ++ [.tok e s len], [])
      | none => none
    | none => none
  | .store t x y => match ρ x, ρ y with
    | some (.ptr i o), some v => match h[i]? with
      | some (.box bt cells) => if szA P t = some v.cells.length ∧ o + v.cells.length ≤ cells.length ∧ v.cells.all AV.isCell = true then some (.tup [], h.set i (.box bt (setAt cells o v.cells)), [i]) else none
      | _ => none
    | _, _ => none
  | .call ⟨.builtin .append, args, ts⟩ => match opsA ρ args.toList, ts.toList with
    | some [s, x], [t, t'] => if t = t' then match rowsOf x with
        | some es' => appendA P t s es' h
        | none => if isNilSlice x then appendA P t s [] h else none
      else none
    | _, _ => none
  | _ => none

/-- What an operation that makes or writes memory leaves. -/
def Eff (P : Program) (o : Oper) (ρ : Operand → Value) (K : Kn) (h : List AObj) (w : World) (v : AV) (h' : List AObj) (touch : List Nat) : Prop :=
  ∃ n u w' K', (execOp ρ o).run P w = .ok n w' ∧ (n = .value u ∨ (n = .skip ∧ u = Go.undef)) ∧ VR K' v u ∧ Step K h w K' h' w' ∧ Frm (K.at h touch) w w'

section
variable {P : Program} {o : Oper} {ρ : Operand → Value} {ρA : Operand → Option AV} {K : Kn} {h : List AObj} {w : World}

theorem Frm.alloc (S : Nat → Prop) (w : World) (o : Obj) : Frm S w (w.alloc o) := ⟨rfl, rfl, rfl, by simp, fun k hk _ => Below.heap_alloc w o k hk⟩
theorem Frm.drewAlloc (S : Nat → Prop) (w : World) (o : Obj) : Frm S w (w.drew.alloc o) := ⟨rfl, rfl, rfl, by simp, fun k hk _ => Below.heap_alloc w.drew o k hk⟩
theorem withBox_mu (K : Kn) (i g z e : Nat) : (K.withBox i g z e).mu i = some g := by show (if i = i then some g else K.mu i) = some g; rw [if_pos rfl]
theorem withTok_mu (K : Kn) (i g n sz cap : Nat) (cur : Array Value) : (K.withTok i g n sz cap cur).mu i = some g := by show (if i = i then some g else K.mu i) = some g; rw [if_pos rfl]

theorem alloc_sound (H : WR K h w) {t : TypeId} {l : List AV} (ho : o.op = .alloc t) (hz : zeroA P t = some l) : Eff P o ρ K h w (.ptr h.length 0) (h ++ [.box t l]) [] := by
  obtain ⟨i, z, hi, hiz, hv⟩ := zeroA_sound (K := K) hz
  refine ⟨.value (.pointer (some ⟨w.heap.size, 0, none⟩)), _, w.alloc (.cells z.cells t), _, ?_, .inl rfl, .ptr _ _ _ (withBox_mu _ _ _ _ _), Step.allocBox H t l z.cells hv, Frm.alloc _ _ _⟩
  simp [execOp, ho, Instr.alloc, zeroValue, typeInfo, hi, hiz, newVar, newRow]
theorem box_sound (H : WR K h w) (hρ : ∀ x v, ρA x = some v → VR K v (ρ x)) {t : TypeId} {x : Operand} {v : AV} (ho : o.op = .box t x) (hx : ρA x = some v) : Eff P o ρ K h w (.ptr h.length 0) (h ++ [.box t v.cells]) [] := by
  refine ⟨.value (.pointer (some ⟨w.heap.size, 0, none⟩)), _, w.alloc (.cells (ρ x).cells t), _, ?_, .inl rfl, .ptr _ _ _ (withBox_mu _ _ _ _ _), Step.allocBox H t v.cells (ρ x).cells (hρ x v hx).cells, Frm.alloc _ _ _⟩
  simp [execOp, ho, Instr.box, newVar, newRow]
theorem all_cell {l : List AV} {cs : List Value} (hv : VL K l cs) (h : l.all AV.isCell = true) : ∀ u ∈ cs, u.oneCell' = true := by
  intro u hu
  obtain ⟨i, hi, rfl⟩ := List.getElem_of_mem hu
  rw [List.all_eq_true] at h
  have hl : i < l.length := by rw [hv.1]; exact hi
  exact (hv.2 i hl hi).one (h _ (List.getElem_mem hl))
theorem take_setAt {α : Type} (l us : List α) (off n : Nat) (h : off + us.length ≤ n) (hn : n ≤ l.length) : (setAt l off us).take n = setAt (l.take n) off us := by
  unfold setAt
  have h1 : (l.take off ++ us).length = off + us.length := by simp; omega
  rw [List.take_append, h1, List.take_of_length_le (by omega), List.take_take, Nat.min_eq_left (by omega), List.drop_take]
theorem store_sound (H : WR K h w) (hρ : ∀ x v, ρA x = some v → VR K v (ρ x)) {t bt : TypeId} {x y : Operand} {i off : Nat} {v : AV} {cells : List AV} (ho : o.op = .store t x y) (hx : ρA x = some (.ptr i off)) (hy : ρA y = some v)
    (hi : h[i]? = some (.box bt cells)) (hs : szA P t = some v.cells.length) (hle : off + v.cells.length ≤ cells.length) (hc : v.cells.all AV.isCell = true) :
    Eff P o ρ K h w (.tup []) (h.set i (.box bt (setAt cells off v.cells))) [i] := by
  obtain ⟨g, cs, hm, hw, hsz, hvl⟩ := H.box i bt cells hi
  have hxv := hρ x _ hx
  generalize hxe : ρ x = xv at hxv
  cases hxv with
  | ptr _ _ g' hm' =>
    rw [hm] at hm'
    cases hm'
    have hyv := (hρ y v hy).cells
    have hlen : (ρ y).cells.size = v.cells.length := by have := hyv.1; simpa using this.symm
    have hcl : cells.length ≤ cs.size := by have := hvl.1; simp at this; omega
    have hst := run_storeCells_at P g off bt (ρ y).cells.toList 0 cs w hw (by simp; omega) (all_cell hyv hc)
    simp only [Nat.add_zero] at hst
    refine ⟨.skip, _, w.setRow g (setAt cs.toList off (ρ y).cells.toList).toArray, K, ?_, .inr ⟨rfl, rfl⟩, VR.undef K, ?_, ?_⟩
    · simp [execOp, ho, Instr.storeAt, Instr.sureAddr, hxe, storeVar, szA_run hs, hlen]
      simp only [Array.length_toList] at hst
      rw [hst]
      simp [setAt]
    · refine Step.store H i (.box bt cells) (.box bt (setAt cells off v.cells)) g hi rfl rfl hm ⟨_, setRow_heap w g cs _ bt _ hw, ⟨?_, hsz.2⟩, ?_⟩ (fun o => H.apart i bt cells g hi hm o) ⟨rfl, rfl, rfl, by simp [World.setRow], fun k _ hk => setRow_other w g k _ hk⟩ (by simp [World.setRow]) (fun k hk => setRow_other w g k _ hk)
      · rw [← hsz.1]; simp [setAt]; omega
      · have h1 := hvl.setAt hyv off
        have h2 : (setAt cells off v.cells).length = cells.length := by simp [setAt]; omega
        rw [h2]
        have h3 : (setAt cs.toList off (ρ y).cells.toList).take cells.length = setAt (cs.toList.take cells.length) off (ρ y).cells.toList := by
          have hz : (ρ y).cells.toList.length = v.cells.length := by simpa using hlen
          exact take_setAt _ _ _ _ (by rw [hz]; exact hle) (by simpa using hcl)
        show VL K _ (List.take cells.length (setAt cs.toList off (ρ y).cells.toList))
        rw [h3]
        exact h1
    · exact ⟨rfl, rfl, rfl, by simp [World.setRow], fun k hk hs => setRow_other w g k _ (fun e => hs ⟨i, _, by simp, hi, rfl, by rw [e]; exact hm⟩)⟩
end
end Go.Proofs.YtjpjcjnacnlhdaaGreat
