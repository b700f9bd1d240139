/- Rows that are written, and maps: the operations that make or write them ('eopM'), and that these are right. -/
import Derived.Test.YtjpjcjnacnlhdaaGreatAbM
namespace Go.Proofs.YtjpjcjnacnlhdaaGreat
open Go.RowKit

/-- An update of a map. -/
def updA (P : Program) (kt : TypeId) (d : TypeDesc) (key : Value) (ks : List Value) (vs : List AV) (v : AV) : Option (List Value × List AV) := match findKP P kt d key ks with
  | some (some j) => match ks[j]? with
    | some old => if Instr.sameBits 10000 old key then some (ks.set j key, vs.set j v) else none
    | none => none
  | some none => some (ks ++ [key], vs ++ [v])
  | none => none
def emUpd (P : Program) (ρ : Operand → Option AV) (h : List AObj) (t : TypeId) (m k x : Operand) : Option (AV × List AObj × List Nat) := match ρ m, ρ x with
  | some (.mp i), some v => match h[i]?, (ρ k).bind AV.val?, P.underlying t with
    | some (.mp ks vs), some key, some (.map kt _) => match P.underlying kt with
      | some d => if keyFit P kt d key then match updA P kt d key ks vs v with
          | some (ks', vs') => some (.tup [], h.set i (.mp ks' vs'), [i])
          | none => none
        else none
      | none => none
    | _, _, _ => none
  | _, _ => none
def emMap (h : List AObj) : Option Operand → Option (AV × List AObj × List Nat)
  | none => some (.mp h.length, h ++ [.mp [] []], [])
  | some _ => none
def emMake (P : Program) (ρ : Operand → Option AV) (h : List AObj) (t : TypeId) (l c : Operand) : Option (AV × List AObj × List Nat) := match ρ l, ρ c, P.underlying t with
  | some lv, some cv, some (.slice e) => match intV lv, intV cv, zeroA P e, szA P e, bytesA P e with
    | some n, some m, some zc, some sz, some by_ => if n = m ∧ 0 ≤ n ∧ 0 < sz ∧ zc.length = sz ∧ n ≤ 1000000 ∧ (by_ : Int) * n ≤ 281474976710656 then
        some (.sl h.length 0 n.toNat sz, h ++ [.box e (zerosA zc (n.toNat * sz))], []) else none
    | _, _, _, _, _ => none
  | _, _, _ => none
/-- The elements of a row, as cells. -/
def srcA (h : List AObj) (sz : Nat) : AV → Option (Nat × List AV)
  | .sl o lo len s => match boxAt h o with
    | some c => if s = sz ∧ (lo + len) * sz ≤ c.length then some (len, (c.drop (lo * sz)).take (len * sz)) else none
    | none => none
  | .pv (.lit (.slice none 0 0)) => some (0, [])
  | x => match rowsOf x with
    | some es => if es.all (fun c => c.length == sz) then some (es.length, (List.range (es.length * sz)).map fun k => .pv ((es.getD (k / sz) []).getD (k % sz) .any)) else none
    | none => none
def emApp (P : Program) (h : List AObj) (t : TypeId) (s x : AV) : Option (AV × List AObj × List Nat) := match P.underlying t with
  | some (.slice e) => match szA P e, bytesA P e, zeroA P e with
    | some sz, some by_, some zc => if 0 < sz ∧ zc.length = sz then match srcA h sz x with
        | some (0, _) => match s with
          | .sl _ _ _ _ => some (s, h, [])
          | s => if isNilSlice s then some (s, h, []) else none
        | some (n + 1, new) => if new.all AV.isCell then match s with
            | .sl o 0 len sz' => match h[o]? with
              | some (.box ty cells) => if ty = e ∧ sz' = sz ∧ len * sz ≤ cells.length ∧ len + (n + 1) ≤ 1000000000000 ∧ (len + (n + 1)) * by_ ≤ 140737488355328 then
                  some (.sl h.length 0 (len + (n + 1)) sz, h.set o .dead ++ [.box e (cells.take (len * sz) ++ new)], [o]) else none
              | _ => none
            | s => if isNilSlice s ∧ mutT t = true ∧ n + 1 ≤ 1000000000000 ∧ (n + 1) * by_ ≤ 140737488355328 then some (.sl h.length 0 (n + 1) sz, h ++ [.box e new], []) else none
          else none
        | none => none
      else none
    | _, _, _ => none
  | _ => none
/-- A row of parts, to be written. -/
def bslM (P : Program) (t : TypeId) (len : Nat) (ps : List (Nat × AV)) : Option (TypeId × Nat × List AV) := match P.underlying t with
  | some (.slice e) => match zeroA P e, szA P e with
    | some zc, some s => if 0 < s ∧ zc.length = s ∧ len * s ≤ 16777216 then match fillA (fun i => some (i * s, s)) (zerosA zc (len * s)) ps with
        | some out => some (e, s, out)
        | none => none
      else none
    | _, _ => none
  | _ => none
def emBsl (P : Program) (ρ : Operand → Option AV) (h : List AObj) (t : TypeId) (len : Nat) (parts : Array (Nat × Operand)) : Option (AV × List AObj × List Nat) := match partsA ρ parts.toList with
  | some ps => match bslM P t len ps with
    | some (e, s, out) => some (.sl h.length 0 len s, h ++ [.box e out], [])
    | none => none
  | none => none
def emClear (P : Program) (h : List AObj) (t : TypeId) (x : AV) : Option (AV × List AObj × List Nat) := match P.underlying t with
  | some (.slice e) => match x with
    | .pv (.lit (.slice none 0 0)) => some (.tup [], h, [])
    | .sl _ _ 0 _ => some (.tup [], h, [])
    | .sl o lo (n + 1) sz => match h[o]?, zeroA P e with
      | some (.box ty cells), some zc => if 0 < zc.length ∧ zc.length = sz ∧ lo * sz + (n + 1) * sz ≤ cells.length ∧ zc.all AV.isCell = true then
          some (.tup [], h.set o (.box ty (setAt cells (lo * sz) (zerosA zc ((n + 1) * sz)))), [o]) else none
      | _, _ => none
    | _ => none
  | _ => none
/-- The append of n zeros to a nil slice. -/
def emZero (P : Program) (h : List AObj) (t it : TypeId) (s x : AV) : Option (AV × List AObj × List Nat) := match P.underlying t, P.underlying it, intV x with
  | some (.slice e), some (.int _), some n => match szA P e, bytesA P e, zeroA P e with
    | some sz, some by_, some zc => if isNilSlice s = true ∧ 0 < sz ∧ zc.length = sz ∧ 0 < n ∧ n ≤ 1000000 ∧ n.toNat * by_ ≤ 140737488355328 then
        some (.sl h.length 0 n.toNat sz, h ++ [.box e (zerosA zc (n.toNat * sz))], []) else none
    | _, _, _ => none
  | _, _, _ => none
def eopM (P : Program) (op : Op) (ρ : Operand → Option AV) (h : List AObj) : Option (AV × List AObj × List Nat) := match op with
  | .makeMap _ r => emMap h r
  | .mapUpdate t m k x => emUpd P ρ h t m k x
  | .insert t m k x => emUpd P ρ h t m k x
  | .makeSlice t l c => emMake P ρ h t l c
  | .call ⟨.builtin .append, args, ts⟩ => match opsA ρ args.toList, ts.toList with
    | some [s, x], [t, t'] => if t = t' then emApp P h t s x else emZero P h t t' s x
    | _, _ => none
  | .call ⟨.builtin .clear, args, ts⟩ => match opsA ρ args.toList, ts.toList with
    | some [x], [t] => emClear P h t x
    | _, _ => none
  | _ => none
/-- A row of parts that are no pure data. -/
def eopB (P : Program) (op : Op) (ρ : Operand → Option AV) (h : List AObj) : Option (AV × List AObj × List Nat) := match op with
  | .buildSlice t len parts => emBsl P ρ h t len parts
  | _ => none
section
variable {P : Program} {o : Oper} {ρ : Operand → Value} {ρA : Operand → Option AV} {K : Kn} {h : List AObj} {w : World}

theorem VL.set {l : List AV} {cs : List Value} (hv : VL K l cs) {a : AV} {v : Value} (ha : VR K a v) (j : Nat) : VL K (l.set j a) (cs.set j v) := by
  refine ⟨by simp [hv.1], fun i hi hi' => ?_⟩
  rw [List.getElem_set, List.getElem_set]
  split
  · exact ha
  · exact hv.2 i (by simpa using hi) (by simpa using hi')
theorem updA_sound {kt : TypeId} {d : TypeDesc} (hd : P.underlying kt = some d) {key : Value} {ents : Array MapEntry} {clock : Nat} {ks ks' : List Value} {vs vs' : List AV} {v : AV} {u : Value} (hm : ML K ks vs ents.toList) (hv : VR K v u) (hq : updA P kt d key ks vs v = some (ks', vs')) :
    ∃ (r : Option (Nat × Value)) (ents' : Array MapEntry) (clock' : Nat), (∀ w : World, (Instr.findKey kt key ents.toList).run P w = .ok r w) ∧ ML K ks' vs' ents'.toList ∧
      ((r = none ∧ ents' = ents.push { key := key, val := u, born := clock } ∧ clock' = clock + 1) ∨
       ∃ j e, r = some (j, e.val) ∧ ents[j]? = some e ∧ Instr.sameBits 10000 e.key key = true ∧ ents' = ents.modify j (fun e => { e with key := key, val := u }) ∧ clock' = clock) := by
  unfold updA at hq
  split at hq
  · rename_i j hj
    split at hq
    · rename_i old ho
      split at hq
      · rename_i hsb
        cases hq
        rw [← hm.1] at hj
        obtain ⟨h1, h2⟩ := findKP_spec hd ents.toList _ hj
        rw [← hm.1, List.getElem?_map] at ho
        obtain ⟨e, he, rfl⟩ := map_some' ho
        simp only [Option.bind_some, he] at h1
        refine ⟨some (j, e.val), _, clock, h1, ?_, .inr ⟨j, e, rfl, by simpa using he, hsb, rfl, rfl⟩⟩
        have hmod : (ents.modify j (fun e => { e with key := key, val := u })).toList = ents.toList.set j { e with key := key, val := u } := by
          rw [Array.toList_modify]
          apply List.ext_getElem?
          intro i
          rw [List.getElem?_modify, List.getElem?_set]
          by_cases hij : j = i
          · subst hij
            have hlt : j < ents.toList.length := h2 j rfl
            simp only [if_pos rfl, if_pos hlt, he]; rfl
          · simp [hij]
        refine ⟨?_, ?_⟩
        · rw [hmod, List.map_set, hm.1]
        · rw [hmod, List.map_set]; exact hm.2.set hv j
      · cases hq
    · cases hq
  · rename_i hj
    cases hq
    rw [← hm.1] at hj
    obtain ⟨h1, _⟩ := findKP_spec hd ents.toList _ hj
    refine ⟨none, _, clock + 1, h1, ?_, .inl ⟨rfl, rfl, rfl⟩⟩
    refine ⟨by simp [hm.1], ?_⟩
    simpa using hm.2.append (VL.single hv)
  · cases hq
theorem emUpd_sound (H : WR K h w) (hρ : ∀ x v, ρA x = some v → VR K v (ρ x)) {t : TypeId} {m k x : Operand} (ho : o.op = .mapUpdate t m k x ∨ o.op = .insert t m k x) {v : AV} {h' : List AObj} {touch : List Nat} (hq : emUpd P ρA h t m k x = some (v, h', touch)) : Eff P o ρ K h w v h' touch := by
  unfold emUpd at hq
  split at hq
  · rename_i i vx hm hx
    split at hq
    · rename_i ks vs key kt et hi hk hu
      split at hq
      · rename_i d hd
        split at hq
        · rename_i hko
          split at hq
          · rename_i ks' vs' hup
            cases hq
            obtain ⟨ka, hka, hkv⟩ := Option.bind_eq_some_iff.1 hk
            have hkey : ρ k = key := val_eq (hρ k _ hka) hkv
            have hmv := hρ m _ hm
            generalize hme : ρ m = mv at hmv
            cases hmv with
            | mp _ g hg =>
              obtain ⟨g', ents, clock, hg', hw, hml⟩ := H.map i ks vs hi
              rw [hg] at hg'
              cases hg'
              obtain ⟨r, ents', clock', hf, hml', hcase⟩ := updA_sound hd (clock := clock) hml (hρ x _ hx) hup
              have hck : (Instr.checkKey false 10000 kt key).run P w = .ok () w := keyFit_run hd hko false w
              have hrun : (Instr.mapUpdate t (.map (some g)) key (ρ x)).run P w = .ok () { w with heap := w.heap.setIfInBounds g (.map ents' clock') } := by
                have hfk := hf w
                rcases hcase with ⟨rfl, rfl, rfl⟩ | ⟨j, e, rfl, he, hsb, rfl, rfl⟩
                · simp only [Instr.mapUpdate, Sem.run_bind, run_underlying hu, Result.andThen_ok, MapKept.run_getObj_map hw, hck, hfk, MapKept.run_setObj_map _ hw]
                · simp only [Instr.mapUpdate, Sem.run_bind, run_underlying hu, Result.andThen_ok, MapKept.run_getObj_map hw, hck, hfk, he, Option.map_some, Option.getD_some, Instr.keyThatStays, if_pos hsb, Sem.run_pure, MapKept.run_setObj_map _ hw]
              obtain ⟨hs1, hs2⟩ := MapKept.heap_set (o' := .map ents' clock') hw
              refine ⟨.skip, _, { w with heap := w.heap.setIfInBounds g (.map ents' clock') }, K, ?_, .inr ⟨rfl, rfl⟩, VR.undef K, ?_, ?_⟩
              · rcases ho with ho | ho <;> simp only [execOp, ho, hme, hkey, Sem.run_bind, hrun, Result.andThen_ok, Sem.run_pure]
              · exact Step.store H i (.mp ks vs) (.mp ks' vs') g hi rfl rfl hg ⟨ents', clock', hs1, hml'⟩ (fun o => H.mapM hw o) ⟨rfl, rfl, rfl, by simp, fun k _ hk => hs2 k hk⟩ (by simp) (fun k hk => hs2 k hk)
              · exact ⟨rfl, rfl, rfl, by simp, fun k hk hs => hs2 k (fun e => hs ⟨i, _, by simp, hi, rfl, by rw [e]; exact hg⟩)⟩
          · cases hq
        · cases hq
      · cases hq
    · cases hq
  · cases hq
theorem emMap_sound (H : WR K h w) {t : TypeId} {r : Option Operand} (ho : o.op = .makeMap t r) {v : AV} {h' : List AObj} {touch : List Nat} (hq : emMap h r = some (v, h', touch)) : Eff P o ρ K h w v h' touch := by
  cases r with
  | some _ => cases hq
  | none =>
    cases hq
    refine ⟨.value (.map (some w.heap.size)), _, w.alloc (.map #[] 0), _, ?_, .inl rfl, .mp _ _ (withBox_mu _ _ _ 0 0), Step.fresh H (.mp [] []) 0 0 (.map #[] 0) rfl ⟨rfl, rfl, rfl, by simp, fun k hk _ => Below.heap_alloc w _ k hk⟩ (fun hx => ⟨#[], 0, heap_alloc_new w _, rfl, rfl, fun i hi => by simp at hi⟩), Frm.alloc _ _ _⟩
    have hr : (Instr.makeMap t none).run P w = .ok (.map (some w.heap.size)) (w.alloc (.map #[] 0)) := rfl
    simp only [execOp, ho, Option.map_none, Sem.run_bind, hr, Result.andThen_ok, Sem.run_pure]
theorem emMake_sound (H : WR K h w) (hρ : ∀ x v, ρA x = some v → VR K v (ρ x)) {t : TypeId} {l c : Operand} (ho : o.op = .makeSlice t l c) {v : AV} {h' : List AObj} {touch : List Nat} (hq : emMake P ρA h t l c = some (v, h', touch)) : Eff P o ρ K h w v h' touch := by
  unfold emMake at hq
  split at hq
  · rename_i lv cv e hl hc hu
    split at hq
    · rename_i n m zc sz by_ hn hm hz hs hb
      split at hq
      · rename_i hcond
        cases hq
        obtain ⟨rfl, h0, hsz, hzc, hle, hby⟩ := hcond
        obtain ⟨k1, hk1⟩ := intV_sound (hρ l _ hl) hn
        obtain ⟨k2, hk2⟩ := intV_sound (hρ c _ hc) hm
        obtain ⟨i, z, hi, hiz, hvz⟩ := zeroA_sound (K := K) hz
        have his : i.size = sz := by unfold szA at hs; rw [hi] at hs; simpa using hs
        have hib : i.bytes = by_ := by unfold bytesA at hb; rw [hi] at hb; simpa using hb
        have hrun := run_make (P := P) w t e i z hu hi hiz k1 k2 n n h0 (Int.le_refl _) (by rw [hib]; exact hby) (by omega)
        rw [his] at hrun
        have hms : (madeCells z.cells (n.toNat * sz)).size = n.toNat * sz := size_madeCells _ _
        have hvl := zerosA_sound hvz (by omega) (n.toNat * sz)
        refine ⟨.value (.slice (some ⟨w.heap.size, 0, none⟩) n.toNat n.toNat), _, w.alloc (.cells (madeCells z.cells (n.toNat * sz)) e), K.withBox h.length w.heap.size n.toNat sz, ?_, .inl rfl, ?_, ?_, Frm.alloc _ _ _⟩
        · simp only [execOp, ho, hk1, hk2, Sem.run_bind, hrun, Result.andThen_ok, Sem.run_pure]
        · exact .sl _ 0 _ sz _ _ 0 (withBox_mu _ _ _ _ _) (withBox_E _ _ _ _ _) (Nat.le_refl _) (by rw [withBox_Z]; omega) (fun _ => by omega)
        · refine Step.fresh H _ n.toNat sz _ rfl ⟨rfl, rfl, rfl, by simp, fun k hk _ => Below.heap_alloc w _ k hk⟩ (fun hx => ⟨_, heap_alloc_new w _, ?_, ?_⟩)
          · rw [withBox_Z, withBox_E]; exact ⟨hms, by unfold maxLen; omega⟩
          · have hl1 : (zerosA zc (n.toNat * sz)).length = n.toNat * sz := by simp [zerosA]
            rw [hl1, List.take_of_length_le (by rw [Array.length_toList, hms]; exact Nat.le_refl _)]
            exact hvl.mono hx
      · cases hq
    · cases hq
  · cases hq
theorem boxAt_some {i : Nat} {c : List AV} (h1 : boxAt h i = some c) : ∃ ty, h[i]? = some (.box ty c) := by
  unfold boxAt at h1
  split at h1
  · rename_i ty c' hi; cases h1; exact ⟨ty, hi⟩
  · cases h1
theorem srcA_sound (H : WR K h w) {x : AV} {v : Value} (hv : VR K x v) {sz n : Nat} {cells : List AV} (hp : 0 < sz) (hq : srcA h sz x = some (n, cells)) :
    ∃ a cap, v = .slice a n cap ∧ (0 < n → ∃ ad news, a = some ad ∧ VL K cells news ∧ news.length = n * sz ∧ ∀ j u, news[j]? = some u → w.cell? (ad.add j) = some u) := by
  unfold srcA at hq
  split at hq
  · rename_i ob lo len s
    split at hq
    · rename_i c hc
      split at hq
      · rename_i hcond
        cases hq
        obtain ⟨rfl, hle⟩ := hcond
        obtain ⟨ty, hi⟩ := boxAt_some hc
        obtain ⟨g, cs, hm, hw, hs, hvl⟩ := H.box ob ty c hi
        cases hv with
        | sl _ _ _ _ g' cap off hm' he hlc hz hof =>
          rw [hm] at hm'
          cases hm'
          refine ⟨_, cap, rfl, fun hn => ?_⟩
          have hof := hof (by omega)
          subst hof
          have hcl : c.length ≤ cs.size := by have := hvl.1; simp at this; omega
          have e1 : (lo + n) * s = lo * s + n * s := Nat.add_mul _ _ _
          refine ⟨_, ((cs.toList.take c.length).drop (lo * s)).take (n * s), rfl, (hvl.drop _).take _, ?_, fun j u hj => ?_⟩
          · simp; omega
          · rw [List.getElem?_take] at hj
            split at hj
            · rw [List.getElem?_drop, List.getElem?_take] at hj
              split at hj
              · rw [add_mid]
                rw [Array.getElem?_toList] at hj
                simp [World.cell?, hw, hj]
              · cases hj
            · cases hj
      · cases hq
    · cases hq
  · cases hq
    exact ⟨none, 0, val_eq hv rfl, fun hn => by omega⟩
  · split at hq
    · rename_i es hes
      split at hq
      · rename_i hall
        cases hq
        have hpr := rowsOf_sound hv hes
        by_cases hne : es = []
        · subst hne
          cases hpr with
          | rows _ a cap g off sz us ha hn _ _ _ => exact ⟨a, cap, rfl, fun hn => by simp at hn⟩
        · have hsize : ∀ i (hi : i < es.length), es[i].length = sz := fun i hi => by
            rw [List.all_eq_true] at hall
            simpa using hall _ (List.getElem_mem hi)
          obtain ⟨g, off, cap, news, he, hnl, hnM, hnP⟩ := row_news hpr hne hsize hp
          refine ⟨_, cap, he, fun _ => ⟨_, news, rfl, ⟨by simp [hnl], fun k hk hk' => ?_⟩, hnl, fun j u hj => by rw [add_mid]; exact H.agr _ _ _ (hnM j u hj)⟩⟩
          simp only [List.getElem_map, List.getElem_range]
          rw [hnl] at hk'
          have h1 : k / sz < es.length := Nat.div_lt_of_lt_mul (by rw [Nat.mul_comm]; exact hk')
          have h2 : k % sz < es[k / sz].length := by rw [hsize _ h1]; exact Nat.mod_lt _ hp
          obtain ⟨u, hu1, hu2⟩ := hnP (k / sz) h1 (k % sz) h2
          have e2 : k / sz * sz + k % sz = k := by rw [Nat.mul_comm]; exact Nat.div_add_mod k sz
          rw [e2, List.getElem?_eq_getElem (by rw [hnl]; exact hk')] at hu1
          rw [Option.some.inj hu1]
          refine .pv ?_
          have e3 : es.getD (k / sz) [] = es[k / sz] := by simp [List.getD, List.getElem?_eq_getElem h1]
          rw [e3]
          have e4 : es[k / sz].getD (k % sz) .any = es[k / sz][k % sz] := by simp [List.getD, List.getElem?_eq_getElem h2]
          rw [e4]
          exact hu2
      · cases hq
    · cases hq
theorem emApp_sound (H : WR K h w) {args : Array Operand} {s x : Operand} (ha : args.toList = [s, x]) {t : TypeId} {ts : Array TypeId} (hts : ts.toList = [t, t]) (ho : o.op = .call ⟨.builtin .append, args, ts⟩)
    {sA xA : AV} (hs : VR K sA (ρ s)) (hx : VR K xA (ρ x)) {v : AV} {h' : List AObj} {touch : List Nat} (hq : emApp P h t sA xA = some (v, h', touch)) : Eff P o ρ K h w v h' touch := by
  unfold emApp at hq
  split at hq
  · rename_i e hu
    split at hq
    · rename_i sz by_ zc hsz hby hz
      obtain ⟨i, z, hi, hiz, hvz⟩ := zeroA_sound (K := K) hz
      have his : i.size = sz := by unfold szA at hsz; rw [hi] at hsz; simpa using hsz
      have hib : i.bytes = by_ := by unfold bytesA at hby; rw [hi] at hby; simpa using hby
      split at hq
      · rename_i hc0
        have hzs : z.cells.size = sz := by have := hvz.1; simp at this; omega
        split at hq
        · rename_i cells hsrc
          obtain ⟨a, cap, hxe, _⟩ := srcA_sound H hx hc0.1 hsrc
          have hse : ∃ base n c, ρ s = .slice base n c ∧ n ≤ c ∧ v = sA ∧ h' = h ∧ touch = [] := by
            split at hq
            · rename_i ob lo len sz'
              cases hq
              generalize hsx : ρ s = sv at hs
              cases hs with
              | sl _ _ _ _ g cap off hm he hl hz' hof => exact ⟨_, _, _, rfl, hl, rfl, rfl, rfl⟩
            · split at hq
              · rename_i hn
                cases hq
                exact ⟨none, 0, 0, isNil_sound hs hn, Nat.le_refl _, rfl, rfl, rfl⟩
              · cases hq
          obtain ⟨base, n, c, h1, h2, rfl, rfl, rfl⟩ := hse
          refine ⟨_, ρ s, w, K, exec_append ha hts ho (v := ρ s) ?_, .inl rfl, hs, Step.refl H, Frm.refl _ _⟩
          rw [h1, hxe]
          exact run_append_none t o.type e i hu hi base a n c cap h2 w
        · rename_i n new hsrc
          split at hq
          · rename_i hcell
            obtain ⟨a, capx, hxe, hnews⟩ := srcA_sound H hx hc0.1 hsrc
            obtain ⟨ad, news, rfl, hvn, hnl, hncell⟩ := hnews (by omega)
            have h1 : ∀ u ∈ news, u.oneCell' = true := all_cell hvn hcell
            have hnn : new.length = (n + 1) * sz := by rw [hvn.1]; exact hnl
            split at hq
            · rename_i ob len sz'
              split at hq
              · rename_i ty cells hob
                split at hq
                · rename_i hcond
                  obtain ⟨rfl, rfl, hlc, hmx, hbt⟩ := hcond
                  cases hq
                  obtain ⟨g, cs, hm, hwg, ⟨hcs, hZ⟩, hvl⟩ := H.box ob ty cells hob
                  have hcl : cells.length ≤ cs.size := by have := hvl.1; simp at this; omega
                  generalize hse : ρ s = sv at hs
                  cases hs with
                  | sl _ _ _ _ g' cap off hm' he hl hzz hof =>
                    rw [hm] at hm'
                    cases hm'
                    rw [he] at hcs
                    have hsetlen : (h.set ob .dead).length = h.length := by simp
                    have hlive : ∀ (j : Nat) x, (h.set ob .dead)[j]? = some x → x.live = true → h[j]? = some x ∧ j ≠ ob := by
                      intro j x hj hl
                      rw [List.getElem?_set] at hj
                      by_cases ej : ob = j
                      · rw [if_pos ej] at hj
                        split at hj
                        · cases hj; cases hl
                        · cases hj
                      · rw [if_neg ej] at hj; exact ⟨hj, fun e => ej e.symm⟩
                    have htake : (cs.toList.take (len * sz')).length = len * sz' := by simp; omega
                    have hvo : VL K (cells.take (len * sz')) (cs.toList.take (len * sz')) := by
                      have := hvl.take (len * sz')
                      rwa [List.take_take, Nat.min_eq_left hlc] at this
                    have hvall : VL K (cells.take (len * sz') ++ new) (cs.toList.take (len * sz') ++ news) := hvo.append hvn
                    have hlall : (cells.take (len * sz') ++ new).length = (cs.toList.take (len * sz') ++ news).length := hvall.1
                    by_cases hroom : len + (n + 1) ≤ cap
                    · have hof := hof (by omega)
                      rw [Nat.zero_mul] at hof
                      subst hof
                      have hfit : len * sz' + news.length ≤ cs.size := by rw [hnl, hcs, ← Nat.add_mul]; exact Nat.mul_le_mul_right _ (by omega)
                      have hrun := run_append_room (P := P) w t o.type ty i hu hi g len cap cs hwg ad (n + 1) capx news (by rw [his]; exact hnl) hncell h1 hroom (by rw [his]; exact hfit)
                      rw [his] at hrun
                      rw [← hse, ← hxe] at hrun
                      generalize hcur : (cs.toList.take (len * sz') ++ news ++ cs.toList.drop (len * sz' + news.length)).toArray = cur at hrun
                      have hcurs : cur.size = K.Z g * sz' := by rw [← hcur, ← hcs]; simp; omega
                      have hst := Step.put H (h1 := h.set ob .dead) (w' := w.setRow g cur) (.box ty (cells.take (len * sz') ++ new)) g (K.Z g) (K.E g)
                        ⟨cur, setRow_heap w g cs cur ty _ hwg, by rw [withBox_Z, withBox_E, he]; exact ⟨hcurs, hZ⟩, by
                          rw [hlall, ← hcur]
                          show VL _ _ (List.take _ (cs.toList.take (len * sz') ++ news ++ cs.toList.drop (len * sz' + news.length)))
                          rw [List.take_left]
                          exact hvall.mono (Ext.withBox (H.fresh _ (Nat.le_refl _)) (fun _ _ => ⟨rfl, rfl⟩))⟩
                        (by have := heap_lt hwg; simpa [World.setRow] using this) ⟨rfl, rfl, rfl, by simp [World.setRow], fun k _ hk => setRow_other w g k _ hk⟩
                        (fun o => H.apart ob ty cells g hob hm o) hsetlen (fun j x hj hl => by
                          obtain ⟨h2, h3⟩ := hlive j x hj hl
                          exact ⟨h2, fun e => h3 (H.inj j ob x _ g h2 hob hl rfl e hm)⟩)
                        (fun i _ => ⟨rfl, rfl⟩) (.inr ⟨ob, _, hob, rfl, hm⟩)
                      refine ⟨_, _, _, _, exec_append ha hts ho hrun, .inl rfl, .sl _ 0 _ sz' g cap 0 (withBox_mu _ _ _ _ _) (by rw [withBox_E]; exact he) hroom (by rw [withBox_Z]; omega) (fun _ => by omega), hst, ⟨rfl, rfl, rfl, by simp [World.setRow], fun k _ hk => setRow_other w g k _ (fun e => hk ⟨ob, _, by simp, hob, rfl, by rw [e]; exact hm⟩)⟩⟩
                    · have holds : ∀ j v, (cs.toList.take (len * sz'))[j]? = some v → w.cell? ((⟨g, off, none⟩ : Addr).add j) = some v := by
                        intro j v hj
                        have hjl : j < len * sz' := by
                          by_cases hh : j < len * sz'
                          · exact hh
                          · rw [List.getElem?_eq_none (by omega)] at hj; cases hj
                        have hl0 : 0 < len := by
                          rcases Nat.eq_zero_or_pos len with h0 | h0
                          · rw [h0] at hjl; omega
                          · exact h0
                        have hof := hof (by omega)
                        rw [Nat.zero_mul] at hof
                        subst hof
                        rw [add_mid, Nat.zero_add]
                        rw [List.getElem?_take, if_pos hjl, Array.getElem?_toList] at hj
                        simp [World.cell?, hwg, hj]
                      have hrun := run_append_grow (P := P) w t o.type ty i z hu hi hiz ⟨g, off, none⟩ len cap (cs.toList.take (len * sz')) (by rw [his]; exact htake) holds ad (n + 1) capx news (by rw [his]; exact hnl) hncell (by omega) (by omega) (growslice_fits (by omega) (by rw [hib]; exact hbt))
                      rw [← hse, ← hxe] at hrun
                      have hge := grownCap_ge w (len + (n + 1)) cap ty
                      have hcm := grownCap_le_maxLen w (len + (n + 1)) cap ty (by unfold maxLen; omega)
                      generalize grownCap w (len + (n + 1)) cap ty = cap' at *
                      generalize hcur : (cs.toList.take (len * sz')).toArray ++ news.toArray ++ Builtin.zeroCells z.cells (cap' - (len + (n + 1))) = cur at hrun
                      have hcurs : cur.size = cap' * sz' := by
                        rw [← hcur]
                        simp only [Array.size_append, List.size_toArray, size_zeroCells, hzs, hnl, htake, ← Nat.add_mul]
                        congr 1
                        omega
                      have hst := Step.put H (h1 := h.set ob .dead) (w' := w.drew.alloc (.cells cur ty)) (.box ty (cells.take (len * sz') ++ new)) w.heap.size cap' sz'
                        ⟨cur, heap_alloc_new w.drew _, by rw [withBox_Z, withBox_E]; exact ⟨hcurs, hcm⟩, by
                          rw [hlall, ← hcur]
                          have e5 : ((cs.toList.take (len * sz')).toArray ++ news.toArray ++ Builtin.zeroCells z.cells (cap' - (len + (n + 1)))).toList = (cs.toList.take (len * sz') ++ news) ++ (Builtin.zeroCells z.cells (cap' - (len + (n + 1)))).toList := by simp
                          rw [e5, List.take_left]
                          exact hvall.mono (Ext.withBox (H.fresh _ (Nat.le_refl _)) (fun i hi => by have := H.lt i _ hi; omega))⟩
                        (by simp) (Frm.drewAlloc _ _ _)
                        (fun o => H.noM (Nat.le_refl _) o) hsetlen (fun j x hj hl => by
                          obtain ⟨h2, h3⟩ := hlive j x hj hl
                          exact ⟨h2, fun e => by have := H.lt j _ e; omega⟩)
                        (fun i hi => by have := H.lt i _ hi; omega) (.inl (Nat.le_refl _))
                      refine ⟨_, _, _, _, exec_append ha hts ho hrun, .inl rfl, .sl _ 0 _ sz' w.heap.size cap' 0 (withBox_mu _ _ _ _ _) (withBox_E _ _ _ _ _) hge (by rw [withBox_Z]; omega) (fun _ => by omega), hst, Frm.drewAlloc _ _ _⟩
                · cases hq
              · cases hq
            · split at hq
              · rename_i hcond
                obtain ⟨hnil, _, hmx, hbt⟩ := hcond
                cases hq
                have hse := isNil_sound hs hnil
                have hrun := run_append_nil (P := P) w t o.type e i z hu hi hiz ad (n + 1) capx news (by rw [his]; exact hnl) hncell (by omega) (by omega) (by rw [hib]; omega)
                rw [← hse, ← hxe] at hrun
                have hge := grownCap_ge w (n + 1) 0 e
                have hcm := grownCap_le_maxLen w (n + 1) 0 e (by unfold maxLen; omega)
                generalize grownCap w (n + 1) 0 e = cap at *
                generalize hcur : news.toArray ++ Builtin.zeroCells z.cells (cap - (n + 1)) = cur at hrun
                have hcurs : cur.size = cap * sz := by
                  rw [← hcur]
                  simp only [Array.size_append, List.size_toArray, size_zeroCells, hzs, hnl, ← Nat.add_mul]
                  congr 1
                  omega
                have hst := Step.fresh H (w' := w.drew.alloc (.cells cur e)) (.box e new) cap sz (.cells cur e) rfl (Frm.drewAlloc _ _ _) (fun hx => ⟨cur, heap_alloc_new w.drew _, by
                  rw [withBox_Z, withBox_E]; exact ⟨hcurs, hcm⟩, by
                  rw [hvn.1, ← hcur]
                  have e5 : (news.toArray ++ Builtin.zeroCells z.cells (cap - (n + 1))).toList = news ++ (Builtin.zeroCells z.cells (cap - (n + 1))).toList := by simp
                  rw [e5, List.take_left]
                  exact hvn.mono hx⟩)
                exact ⟨_, _, _, _, exec_append ha hts ho hrun, .inl rfl, .sl _ 0 _ sz w.heap.size cap 0 (withBox_mu _ _ _ _ _) (withBox_E _ _ _ _ _) hge (by rw [withBox_Z]; omega) (fun _ => by omega), hst, Frm.drewAlloc _ _ _⟩
              · cases hq
          · cases hq
        · cases hq
      · cases hq
    · cases hq
  · cases hq
theorem emBsl_sound (H : WR K h w) (hρ : ∀ x v, ρA x = some v → VR K v (ρ x)) {t : TypeId} {len : Nat} {parts : Array (Nat × Operand)} (ho : o.op = .buildSlice t len parts) {v : AV} {h' : List AObj} {touch : List Nat} (hq : emBsl P ρA h t len parts = some (v, h', touch)) : Eff P o ρ K h w v h' touch := by
  unfold emBsl at hq
  split at hq
  · rename_i ps hps
    split at hq
    · rename_i e s out hb
      cases hq
      unfold bslM at hb
      split at hb
      · rename_i e' hu
        split at hb
        · rename_i zc s' hz hs
          split at hb
          · rename_i hc
            split at hb
            · rename_i out' hf
              cases hb
              obtain ⟨ie, z, hi, hiz, hvz⟩ := zeroA_sound (K := K) hz
              obtain ⟨h1, h2⟩ := partsA_sound hρ _ _ hps
              have hies : ie.size = s := by unfold szA at hs; rw [hi] at hs; simpa using hs
              obtain ⟨us, hfill, hvu⟩ := fillA_sound _ ps (evParts ρ parts.toList) _ ((Array.range (len * s)).map (z.cells[· % z.cells.size]!)) out (zerosA_sound hvz (by omega) _) h1 h2 hf
              have hout : ∀ (ps : List (Nat × AV)) (cells out : List AV), fillA (fun i => some (i * s, s)) cells ps = some out → out.length = cells.length := by
                intro ps
                induction ps with
                | nil => intro cells out hf; cases hf; rfl
                | cons q ps ih =>
                  intro cells out hf
                  obtain ⟨qi, qv⟩ := q
                  simp only [fillA] at hf
                  split at hf
                  · cases hf
                  · rename_i hcond
                    rw [ih _ _ hf]
                    simp [setAt]
                    omega
              have hol := hout _ _ _ hf
              have hzl : (zerosA zc (len * s)).length = len * s := by simp [zerosA]
              have husz : us.size = len * s := by have := hvu.1; simp at this; omega
              have hlen : len ≤ 16777216 := Nat.le_trans (Nat.le_mul_of_pos_right len hc.1) hc.2.2
              have hrun : (execOp ρ o).run P w = .ok (.value (.slice (some ⟨w.heap.size, 0, none⟩) len len)) (w.alloc (.cells us e)) := by
                have hp' : (parts.map fun (i, x) => (i, ρ x)).toList = evParts ρ parts.toList := by simp [evParts]
                by_cases h0 : len * s = 0
                · have hl0 : len = 0 := by
                    rcases Nat.mul_eq_zero.1 h0 with h0 | h0
                    · exact h0
                    · omega
                  subst hl0
                  have e0 : ∀ f : Nat → Value, (Array.range (0 * s)).map f = #[] := fun f => by apply Array.ext'; simp
                  rw [e0] at hfill
                  simp only [execOp, ho, Instr.buildSlice, Sem.run_bind, run_underlying hu, Result.andThen_ok, szA_run hs]
                  rw [if_neg (by simp), if_pos (by simp)]
                  simp only [Sem.run_bind, Sem.run_pure, Result.andThen_ok, e0, hp', hfill]
                  simp [newRow]
                · have := run_buildSlice (P := P) w t e len (parts.map fun (i, x) => (i, ρ x)) us ie z hu hi hiz (by rw [hies]; have := hc.2.2; omega) (by rw [hies]; exact h0) (by rw [hies, hp']; exact hfill)
                  simp only [execOp, ho, Sem.run_bind, this, Result.andThen_ok, Sem.run_pure]
              have hst := Step.fresh H (w' := w.alloc (.cells us e)) (.box e out) len s (.cells us e) rfl (Frm.alloc _ _ _) (fun hx => ⟨us, heap_alloc_new w _, by
                rw [withBox_Z, withBox_E]; exact ⟨husz, by unfold maxLen; omega⟩, by
                rw [hvu.1, List.take_length]; exact hvu.mono hx⟩)
              exact ⟨_, _, _, _, hrun, .inl rfl, .sl _ 0 _ s w.heap.size len 0 (withBox_mu _ _ _ _ _) (withBox_E _ _ _ _ _) (Nat.le_refl _) (by rw [withBox_Z]; omega) (fun _ => by omega), hst, Frm.alloc _ _ _⟩
            · cases hb
          · cases hb
        · cases hb
      · cases hb
    · cases hq
  · cases hq
theorem exec_clear {args : Array Operand} {x : Operand} (ha : args.toList = [x]) {t : TypeId} {ts : Array TypeId} (hts : ts.toList = [t]) (ho : o.op = .call ⟨.builtin .clear, args, ts⟩) {v : Value} {w' : World}
    (hr : (Builtin.clear_ #[t] o.type #[ρ x]).run P w = .ok v w') : (execOp ρ o).run P w = .ok (.value v) w' := by
  have e1 : args = #[x] := by rw [← Array.toArray_toList (xs := args), ha]
  have e2 : ts = #[t] := by rw [← Array.toArray_toList (xs := ts), hts]
  subst e1
  subst e2
  simp only [execOp, ho, resolve, invoke, builtin, Sem.run_bind, Sem.run_pure, Result.andThen_ok, List.map_toArray, List.map_cons, List.map_nil, hr]
theorem emClear_sound (H : WR K h w) {args : Array Operand} {x : Operand} (ha : args.toList = [x]) {t : TypeId} {ts : Array TypeId} (hts : ts.toList = [t]) (ho : o.op = .call ⟨.builtin .clear, args, ts⟩)
    {xA : AV} (hx : VR K xA (ρ x)) {v : AV} {h' : List AObj} {touch : List Nat} (hq : emClear P h t xA = some (v, h', touch)) : Eff P o ρ K h w v h' touch := by
  unfold emClear at hq
  split at hq
  · rename_i e hu
    split at hq
    · cases hq
      have hxe : ρ x = .slice none 0 0 := val_eq hx rfl
      refine ⟨_, .tuple #[], w, K, exec_clear ha hts ho (v := .tuple #[]) ?_, .inl rfl, VR.undef K, Step.refl H, Frm.refl _ _⟩
      rw [hxe]
      simp [Builtin.clear_, run_underlying hu]
    · cases hq
      generalize hxe : ρ x = xv at hx
      cases hx with
      | sl _ _ _ _ g cap off hm he hl hz hof =>
        refine ⟨_, .tuple #[], w, K, exec_clear ha hts ho (v := .tuple #[]) ?_, .inl rfl, VR.undef K, Step.refl H, Frm.refl _ _⟩
        rw [hxe]
        simp [Builtin.clear_, run_underlying hu]
    · rename_i ob lo n sz
      split at hq
      · rename_i ty cells zc hob hz
        split at hq
        · rename_i hc
          cases hq
          obtain ⟨hc1, hc2, hc3, hc4⟩ := hc
          obtain ⟨i, z, hi, hiz, hvz⟩ := zeroA_sound (K := K) hz
          have hzs : z.cells.size = sz := by have := hvz.1; simp at this; omega
          obtain ⟨g, cs, hm, hw, hsz, hvl⟩ := H.box ob ty cells hob
          have hcl : cells.length ≤ cs.size := by have := hvl.1; simp at this; omega
          generalize hxe : ρ x = xv at hx
          cases hx with
          | sl _ _ _ _ g' cap off hm' he hl hz' hof =>
            rw [hm] at hm'
            cases hm'
            have hof := hof (by omega)
            subst hof
            have hzv := zerosA_sound hvz (by omega) ((n + 1) * sz)
            have hze : (Array.range ((n + 1) * sz)).map (z.cells[· % z.cells.size]!) = Builtin.zeroCells z.cells (n + 1) := by
              unfold Builtin.zeroCells; rw [hzs]
            rw [hze] at hzv
            have hzl : (Builtin.zeroCells z.cells (n + 1)).toList.length = (n + 1) * sz := by rw [← hzv.1]; simp [zerosA]
            have hcell : (zerosA zc ((n + 1) * sz)).all AV.isCell = true := by
              rw [List.all_eq_true] at hc4 ⊢
              intro y hy
              simp only [zerosA, List.mem_map, List.mem_range] at hy
              obtain ⟨k, hk, rfl⟩ := hy
              have hk2 : k % zc.length < zc.length := Nat.mod_lt _ hc1
              have e1 : zc.getD (k % zc.length) (.tup []) = zc[k % zc.length] := by simp [List.getD, List.getElem?_eq_getElem hk2]
              rw [e1]
              exact hc4 _ (List.getElem_mem hk2)
            have hst := run_storeCells_at P g (lo * sz) ty (Builtin.zeroCells z.cells (n + 1)).toList 0 cs w hw (by rw [hzl]; omega) (all_cell hzv hcell)
            simp only [Nat.add_zero] at hst
            have hzr : (zeroValue e).run P w = .ok z w := by simp [zeroValue, typeInfo, hi, hiz]
            refine ⟨_, .tuple #[], w.setRow g (setAt cs.toList (lo * sz) (Builtin.zeroCells z.cells (n + 1)).toList).toArray, K, exec_clear ha hts ho (v := .tuple #[]) ?_, .inl rfl, VR.undef K, ?_, ?_⟩
            · rw [hxe]
              have hst' : (storeCells ⟨g, lo * sz, none⟩ (Builtin.zeroCells z.cells (n + 1)).toList).run P w = .ok () (w.setRow g (setAt cs.toList (lo * sz) (Builtin.zeroCells z.cells (n + 1)).toList).toArray) := by
                rw [hst]; simp [setAt]
              simp [Builtin.clear_, run_underlying hu, hzr, hst']
            · refine Step.store H ob (.box ty cells) (.box ty (setAt cells (lo * sz) (zerosA zc ((n + 1) * sz)))) g hob rfl rfl hm ⟨_, setRow_heap w g cs _ ty _ hw, ⟨?_, hsz.2⟩, ?_⟩ (fun o => H.apart ob ty cells g hob hm o) ⟨rfl, rfl, rfl, by simp [World.setRow], fun k _ hk => setRow_other w g k _ hk⟩ (by simp [World.setRow]) (fun k hk => setRow_other w g k _ hk)
              · rw [← hsz.1]; simp only [setAt, List.size_toArray, List.length_append, List.length_take, List.length_drop, hzl, Array.length_toList]; omega
              · have h1 := hvl.setAt hzv (lo * sz)
                have hzl2 : (zerosA zc ((n + 1) * sz)).length = (n + 1) * sz := by simp [zerosA]
                have h2 : (setAt cells (lo * sz) (zerosA zc ((n + 1) * sz))).length = cells.length := by simp only [setAt, List.length_append, List.length_take, List.length_drop, hzl2]; omega
                rw [h2]
                show VL K _ (List.take cells.length (setAt cs.toList (lo * sz) (Builtin.zeroCells z.cells (n + 1)).toList))
                rw [take_setAt _ _ _ _ (by rw [hzl]; exact hc3) (by simpa using hcl)]
                exact h1
            · exact ⟨rfl, rfl, rfl, by simp [World.setRow], fun k hk hs => setRow_other w g k _ (fun e => hs ⟨ob, _, by simp, hob, rfl, by rw [e]; exact hm⟩)⟩
        · cases hq
      · cases hq
    · cases hq
  · cases hq
theorem run_append_zeros (t it ty e : TypeId) (k : IntKind) (i : TypeInfo) (z : Value) (ht : P.underlying t = some (.slice e)) (hit : P.underlying it = some (.int k)) (hi : P.info? e = some i) (hz : i.zero = some z) (k' : IntKind) (n : Nat) (hp : 0 < n * i.size)
    (h0 : 0 < n) (h63 : n ≤ 1000000) (h48 : n * i.bytes ≤ 140737488355328) (w : World) :
    (Builtin.append_ #[t, it] ty #[.slice none 0 0, .int k' (n : Int)]).run P w =
      .ok (.slice (some ⟨w.heap.size, 0, none⟩) n (grownCap w n 0 e)) (w.drew.alloc (.cells (Builtin.zeroCells z.cells n ++ Builtin.zeroCells z.cells (grownCap w n 0 e - n)) e)) := by
  have hn : n ≠ 0 := by omega
  have hns : ¬ (n * i.size = 0) := by omega
  have hneg : ¬ ((n : Int) < 0) := by omega
  have hw : IntKind.i64.wrap (n : Int) = (n : Int) := by
    unfold IntKind.wrap
    simp [IntKind.signed, IntKind.bits]
    omega
  have h63' : ¬ (9223372036854775807 < (n : Int)) := by omega
  have h48' : ¬ (281474976710656 < Builtin.nextslicecap n 0 * i.bytes) := by rw [nextslicecap_zero h0]; omega
  have h48'' : ¬ (281474976710656 < (n : Int) * (i.bytes : Int)) := by
    have : ((n * i.bytes : Nat) : Int) ≤ 140737488355328 := by omega
    rw [Int.natCast_mul] at this
    omega
  simp [Builtin.append_, run_underlying ht, run_underlying hit, sizeOf, typeInfo, zeroValue, hi, hz, asInt, asIntOf, hw, hn, hns, hneg, h63', h48', h48'', Question.forced, run_firstCells_none, newRow, grownCap]
theorem emZero_sound (H : WR K h w) {args : Array Operand} {s x : Operand} (ha : args.toList = [s, x]) {t it : TypeId} {ts : Array TypeId} (hts : ts.toList = [t, it]) (ho : o.op = .call ⟨.builtin .append, args, ts⟩)
    {sA xA : AV} (hs : VR K sA (ρ s)) (hx : VR K xA (ρ x)) {v : AV} {h' : List AObj} {touch : List Nat} (hq : emZero P h t it sA xA = some (v, h', touch)) : Eff P o ρ K h w v h' touch := by
  unfold emZero at hq
  split at hq
  · rename_i e k n hu hit hn
    split at hq
    · rename_i sz by_ zc hsz hby hz
      split at hq
      · rename_i hc
        cases hq
        obtain ⟨hnil, hc1, hc2, hc3, hc4, hc5⟩ := hc
        obtain ⟨i, z, hi, hiz, hvz⟩ := zeroA_sound (K := K) hz
        have his : i.size = sz := by unfold szA at hsz; rw [hi] at hsz; simpa using hsz
        have hib : i.bytes = by_ := by unfold bytesA at hby; rw [hi] at hby; simpa using hby
        have hzs : z.cells.size = sz := by have := hvz.1; simp at this; omega
        have hse := isNil_sound hs hnil
        obtain ⟨k', hxe⟩ := intV_sound hx hn
        have hnn : ((n.toNat : Nat) : Int) = n := by omega
        have hrun := run_append_zeros (P := P) t it o.type e k i z hu hit hi hiz k' n.toNat (by rw [his]; exact Nat.mul_pos (by omega) hc1) (by omega) (by omega) (by rw [hib]; exact hc5) w
        rw [hnn] at hrun
        have hge := grownCap_ge w n.toNat 0 e
        have hcm := grownCap_le_maxLen w n.toNat 0 e (by unfold maxLen; omega)
        generalize grownCap w n.toNat 0 e = cap at *
        have hzv := zerosA_sound hvz (by omega) (n.toNat * sz)
        have hze : (Array.range (n.toNat * sz)).map (z.cells[· % z.cells.size]!) = Builtin.zeroCells z.cells n.toNat := by unfold Builtin.zeroCells; rw [hzs]
        rw [hze] at hzv
        generalize hcur : Builtin.zeroCells z.cells n.toNat ++ Builtin.zeroCells z.cells (cap - n.toNat) = cur at hrun
        have hcurs : cur.size = cap * sz := by
          rw [← hcur]
          simp only [Array.size_append, size_zeroCells, hzs, ← Nat.add_mul]
          congr 1
          omega
        have hst := Step.fresh H (w' := w.drew.alloc (.cells cur e)) (.box e (zerosA zc (n.toNat * sz))) cap sz (.cells cur e) rfl (Frm.drewAlloc _ _ _) (fun hx => ⟨cur, heap_alloc_new w.drew _, by
          rw [withBox_Z, withBox_E]; exact ⟨hcurs, hcm⟩, by
          rw [hzv.1, ← hcur]
          have e5 : (Builtin.zeroCells z.cells n.toNat ++ Builtin.zeroCells z.cells (cap - n.toNat)).toList = (Builtin.zeroCells z.cells n.toNat).toList ++ (Builtin.zeroCells z.cells (cap - n.toNat)).toList := by simp
          rw [e5, List.take_left]
          exact hzv.mono hx⟩)
        have e1 : args = #[s, x] := by rw [← Array.toArray_toList (xs := args), ha]
        have e2 : ts = #[t, it] := by rw [← Array.toArray_toList (xs := ts), hts]
        subst e1
        subst e2
        refine ⟨_, _, _, _, ?_, .inl rfl, .sl _ 0 _ sz w.heap.size cap 0 (withBox_mu _ _ _ _ _) (withBox_E _ _ _ _ _) hge (by rw [withBox_Z]; omega) (fun _ => by omega), hst, Frm.drewAlloc _ _ _⟩
        simp only [execOp, ho, resolve, invoke, builtin, Sem.run_bind, Sem.run_pure, Result.andThen_ok, List.map_toArray, List.map_cons, List.map_nil, hse, hxe, hrun]
      · cases hq
    · cases hq
  · cases hq
theorem opsA_one (hρ : ∀ x v, ρA x = some v → VR K v (ρ x)) {args : Array Operand} {a : AV} (hq : opsA ρA args.toList = some [a]) : ∃ x, args.toList = [x] ∧ VR K a (ρ x) := by
  match hl : args.toList, hq with
  | [], hq => simp [opsA] at hq
  | [x], hq =>
    simp only [opsA] at hq
    split at hq
    · rename_i v r hv hr
      cases hr
      cases hq
      exact ⟨x, rfl, hρ x _ hv⟩
    · cases hq
  | x :: y :: l, hq =>
    simp only [opsA] at hq
    split at hq
    · rename_i v r hv hr
      cases hq
      split at hr
      · cases hr
      · cases hr
    · cases hq
theorem opsA_two (hρ : ∀ x v, ρA x = some v → VR K v (ρ x)) {args : Array Operand} {a b : AV} (hq : opsA ρA args.toList = some [a, b]) : ∃ x y, args.toList = [x, y] ∧ VR K a (ρ x) ∧ VR K b (ρ y) := by
  match hl : args.toList, hq with
  | [], hq => simp [opsA] at hq
  | [x], hq =>
    simp only [opsA] at hq
    split at hq
    · rename_i v r hv hr
      cases hr
      cases hq
    · cases hq
  | [x, y], hq =>
    simp only [opsA] at hq
    split at hq
    · rename_i v r hv hr
      cases hq
      split at hr
      · rename_i v2 r2 hv2 hr2
        cases hr2
        cases hr
        exact ⟨x, y, rfl, hρ x _ hv, hρ y _ hv2⟩
      · cases hr
    · cases hq
  | x :: y :: z :: l, hq =>
    simp only [opsA] at hq
    split at hq
    · rename_i v r hv hr
      cases hq
      split at hr
      · rename_i v2 r2 hv2 hr2
        cases hr
        split at hr2
        · cases hr2
        · cases hr2
      · cases hr
    · cases hq
theorem eopM_sound (H : WR K h w) (hρ : ∀ x v, ρA x = some v → VR K v (ρ x)) {v : AV} {h' : List AObj} {touch : List Nat} (hq : eopM P o.op ρA h = some (v, h', touch)) : Eff P o ρ K h w v h' touch := by
  unfold eopM at hq
  split at hq
  · rename_i ho; exact emMap_sound H ho hq
  · rename_i ho; exact emUpd_sound H hρ (.inl ho) hq
  · rename_i ho; exact emUpd_sound H hρ (.inr ho) hq
  · rename_i ho; exact emMake_sound H hρ ho hq
  · rename_i args ts ho
    split at hq
    · rename_i s x t t' hop hts
      split at hq
      · rename_i e
        subst e
        obtain ⟨so, xo, ha, hs, hx⟩ := opsA_two hρ hop
        exact emApp_sound H ha hts ho hs hx hq
      · obtain ⟨so, xo, ha, hs, hx⟩ := opsA_two hρ hop
        exact emZero_sound H ha hts ho hs hx hq
    · cases hq
  · rename_i args ts ho
    split at hq
    · rename_i x t hop hts
      obtain ⟨xo, ha, hx⟩ := opsA_one hρ hop
      exact emClear_sound H ha hts ho hx hq
    · cases hq
  · cases hq
theorem eopB_sound (H : WR K h w) (hρ : ∀ x v, ρA x = some v → VR K v (ρ x)) {v : AV} {h' : List AObj} {touch : List Nat} (hq : eopB P o.op ρA h = some (v, h', touch)) : Eff P o ρ K h w v h' touch := by
  unfold eopB at hq
  split at hq
  · rename_i ho; exact emBsl_sound H hρ ho hq
  · cases hq
end
end Go.Proofs.YtjpjcjnacnlhdaaGreat
