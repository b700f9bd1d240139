/- Slice literals and appends. -/
import Derived.Test.YtjpjcjnacnlhdaaGreatAb9
namespace Go.Proofs.YtjpjcjnacnlhdaaGreat
open Go.RowKit

theorem toPVs_sound {K : Kn} : ∀ {l : List AV} {cs : List Value} {ps : List PV}, VL K l cs → toPVs l = some ps → ps.length = cs.length ∧ ∀ i (h : i < ps.length) (h' : i < cs.length), PR K.R K.M ps[i] cs[i]
  | [], cs, ps, hv, h => by
    cases h
    exact ⟨hv.1, fun i h => by simp at h⟩
  | a :: l, [], ps, hv, _ => by have := hv.1; simp at this
  | a :: l, c :: cs, ps, hv, h => by
    rw [toPVs] at h
    split at h
    · rename_i p r hp hr
      cases h
      obtain ⟨h1, h2⟩ := toPVs_sound (cs := cs) ⟨by simpa using hv.1, fun i hi hi' => hv.2 (i + 1) (by simpa using hi) (by simpa using hi')⟩ hr
      refine ⟨by simpa using h1, fun i hi hi' => ?_⟩
      cases i with
      | zero => exact (hv.2 0 (by simp) (by simp)).toPV hp
      | succ i => exact h2 i (by simpa using hi) (by simpa using hi')
    · cases h
theorem chunk_len (sz : Nat) : ∀ (n : Nat) (l : List PV), (chunk sz n l).length = n
  | 0, _ => rfl
  | n + 1, l => by simp [chunk, chunk_len sz n]
theorem chunk_at (sz : Nat) : ∀ (n : Nat) (l : List PV), l.length = n * sz → ∀ i (h : i < (chunk sz n l).length), (chunk sz n l)[i].length = sz ∧ ∀ j (hj : j < (chunk sz n l)[i].length), l[i * sz + j]? = some (chunk sz n l)[i][j]
  | 0, l, _, i, h => by simp [chunk] at h
  | n + 1, l, hl, i, h => by
    rw [Nat.succ_mul] at hl
    cases i with
    | zero =>
      simp only [chunk, List.getElem_cons_zero]
      refine ⟨by simp; omega, fun j hj => ?_⟩
      rw [Nat.zero_mul, Nat.zero_add, List.getElem_take, List.getElem?_eq_getElem]
    | succ i =>
      simp only [chunk, List.getElem_cons_succ]
      obtain ⟨h1, h2⟩ := chunk_at sz n (l.drop sz) (by simp; omega) i (by simpa [chunk] using h)
      refine ⟨h1, fun j hj => ?_⟩
      have := h2 j hj
      rw [List.getElem?_drop] at this
      rw [← this]
      congr 1
      rw [Nat.succ_mul]
      omega
theorem zerosA_sound {K : Kn} {zc : List AV} {z : Array Value} (hv : VL K zc z.toList) (hp : 0 < zc.length) (n : Nat) : VL K (zerosA zc n) ((Array.range n).map (z[· % z.size]!)).toList := by
  have hl : zc.length = z.size := by have := hv.1; simpa using this
  refine ⟨by simp [zerosA], fun i hi hi' => ?_⟩
  have hlt : i % zc.length < zc.length := Nat.mod_lt _ hp
  have hlt' : i % z.size < z.size := Nat.mod_lt _ (by omega)
  have := hv.2 (i % zc.length) hlt (by simpa [hl] using hlt')
  simp only [zerosA, List.getElem_map, List.getElem_range, Array.toList_map, Array.toList_range]
  rw [List.getD_eq_getElem?_getD, List.getElem?_eq_getElem hlt, Option.getD_some]
  rw [getElem!_pos z (i % z.size) hlt']
  simpa [hl] using this
theorem withTok_Z (K : Kn) (i g n sz cap : Nat) (cur : Array Value) : (K.withTok i g n sz cap cur).Z g = cap := by show (if g = g then cap else K.Z g) = cap; rw [if_pos rfl]
theorem withTok_E (K : Kn) (i g n sz cap : Nat) (cur : Array Value) : (K.withTok i g n sz cap cur).E g = sz := by show (if g = g then sz else K.E g) = sz; rw [if_pos rfl]
theorem withTok_M (K : Kn) (i g n sz cap : Nat) (cur : Array Value) (o : Nat) (h : o < n * sz) : (K.withTok i g n sz cap cur).M g o = cur[o]? := by
  show (if g = g ∧ o < n * sz then cur[o]? else K.M g o) = _; rw [if_pos ⟨rfl, h⟩]
theorem idx_lt {i j n s : Nat} (hi : i < n) (hj : j < s) : i * s + j < n * s := by
  calc i * s + j < i * s + s := by omega
    _ = (i + 1) * s := by rw [Nat.succ_mul]
    _ ≤ n * s := Nat.mul_le_mul_right _ hi
/-- The value of a new row. -/
theorem VR.ofTok {K K0 : Kn} {t g n sz cap : Nat} {cur : Array Value} {es : List (List PV)} (hx : Ext K0 (K.withTok t g n sz cap cur)) (hn : es.length = n) (hcap : n ≤ cap) (hsz : ∀ i (h : i < es.length), es[i].length = sz)
    (hc : ∀ i (h : i < es.length) j (hj : j < es[i].length), ∃ u, cur[i * sz + j]? = some u ∧ PR K0.R K0.M es[i][j] u) :
    VR (K.withTok t g n sz cap cur) (.trows t es) (.slice (some ⟨g, 0, none⟩) n cap) := by
  have key := VR.trows (K := K.withTok t g n sz cap cur) t es g (fun i j => (cur[i * sz + j]?).getD Go.undef) (withTok_mu _ _ _ _ _ _ _) (by rw [withTok_Z, hn]; exact hcap) (by rw [withTok_E]; exact hsz)
    (fun i hi j hj => by
      rw [withTok_E] at hj ⊢
      rw [withTok_M _ _ _ _ _ _ _ _ (by rw [← hn]; exact idx_lt hi hj)]
      obtain ⟨u, hu, _⟩ := hc i hi j (by rw [hsz i hi]; exact hj)
      rw [hu]; rfl)
    (fun i hi j hj => by
      obtain ⟨u, hu, hp⟩ := hc i hi j hj
      show PR _ _ _ ((cur[i * sz + j]?).getD Go.undef)
      rw [hu]
      exact hp.ext hx)
  rw [withTok_Z, hn] at key
  exact key

section
variable {P : Program} {o : Oper} {ρ : Operand → Value} {ρA : Operand → Option AV} {K : Kn} {h : List AObj} {w : World}

/-- A new row in a new block. -/
theorem Step.newRow (H : WR K h w) {w' : World} (ty : TypeId) (n sz cap : Nat) (cur : Array Value) (hw' : w'.heap = w.heap.push (.cells cur ty)) (hfr : Frm (fun _ => False) w w') (hcs : cur.size = cap * sz) (hcap : cap ≤ maxLen) {n' : Nat} (hn' : dl K.R n' = n) :
    Step K h w (K.withTok h.length w.heap.size n sz cap cur) (h ++ [.tok ty sz n']) w' := by
  refine Step.withTok H ty w.heap.size n sz cap cur (by rw [hw']; simp) hcs hcap (hfr.mono (fun _ _ h => h.elim)) (fun o v hm => ?_) rfl (fun j x hj _ => ⟨hj, fun e => ?_⟩) (fun i hi => ?_) (.inl (Nat.le_refl _)) hn'
  · rw [H.noM (Nat.le_refl _) o] at hm; cases hm
  · have := H.lt j _ e; omega
  · have := H.lt i _ hi; omega

theorem buildSlice_sound (H : WR K h w) (hρ : ∀ x v, ρA x = some v → VR K v (ρ x)) {t : TypeId} {len : Nat} {parts : Array (Nat × Operand)} {ps : List (Nat × AV)} {e : TypeId} {s : Nat} {pvs : List PV}
    (ho : o.op = .buildSlice t len parts) (hps : partsA ρA parts.toList = some ps) (hb : bslA P t len ps = some (e, s, pvs)) :
    Eff P o ρ K h w (.trows h.length (chunk s len pvs)) (h ++ [.tok e s len]) [] := by
  unfold bslA at hb
  split at hb
  · rename_i e' hu
    split at hb
    · rename_i zc s' hz hs
      split at hb
      · rename_i hc
        split at hb
        · rename_i out hf
          split at hb
          · rename_i pvs' hp
            cases hb
            obtain ⟨ie, z, hi, hiz, hvz⟩ := zeroA_sound (K := K) hz
            obtain ⟨h1, h2⟩ := partsA_sound hρ _ _ hps
            have hies : ie.size = s := by unfold szA at hs; rw [hi] at hs; simpa using hs
            obtain ⟨us, hfill, hvu⟩ := fillA_sound _ ps (evParts ρ parts.toList) _ ((Array.range (len * s)).map (z.cells[· % z.cells.size]!)) out (zerosA_sound hvz (by omega) _) h1 h2 hf
            obtain ⟨hpl, hpr⟩ := toPVs_sound hvu hp
            have hout : ∀ (ps : List (Nat × AV)) (cells out : List AV), fillA (fun i => some (i * s, s)) cells ps = some out → out.length = cells.length := by
              intro ps
              induction ps with
              | nil => intro cells out hf; cases hf; rfl
              | cons q ps ih =>
                intro cells out hf
                obtain ⟨qi, qv⟩ := q
                simp only [fillA] at hf
                split at hf
                · cases hf
                · rename_i hcond
                  rw [ih _ _ hf]
                  simp [setAt]
                  omega
            have hol := hout _ _ _ hf
            have hzl : (zerosA zc (len * s)).length = len * s := by simp [zerosA]
            have husz : us.size = len * s := by have := hvu.1; simp at this; omega
            have hlen : len ≤ 16777216 := Nat.le_trans (Nat.le_mul_of_pos_right len hc.1) hc.2.2
            have hrun : (execOp ρ o).run P w = .ok (.value (.slice (some ⟨w.heap.size, 0, none⟩) len len)) (w.alloc (.cells us e)) := by
              have hp' : (parts.map fun (i, x) => (i, ρ x)).toList = evParts ρ parts.toList := by simp [evParts]
              by_cases h0 : len * s = 0
              · have hl0 : len = 0 := by
                  rcases Nat.mul_eq_zero.1 h0 with h0 | h0
                  · exact h0
                  · omega
                subst hl0
                have e0 : ∀ f : Nat → Value, (Array.range (0 * s)).map f = #[] := fun f => by apply Array.ext'; simp
                rw [e0] at hfill
                simp only [execOp, ho, Instr.buildSlice, Sem.run_bind, run_underlying hu, Result.andThen_ok, szA_run hs]
                rw [if_neg (by simp), if_pos (by simp)]
                simp only [Sem.run_bind, Sem.run_pure, Result.andThen_ok, e0, hp', hfill]
                simp [newRow]
              · have := run_buildSlice (P := P) w t e len (parts.map fun (i, x) => (i, ρ x)) us ie z hu hi hiz (by rw [hies]; have := hc.2.2; omega) (by rw [hies]; exact h0) (by rw [hies, hp']; exact hfill)
                simp only [execOp, ho, Sem.run_bind, this, Result.andThen_ok, Sem.run_pure]
            have hst := Step.newRow H (w' := w.alloc (.cells us e)) e len s len us rfl (Frm.alloc _ _ _) husz (by unfold maxLen; omega) (dl_small (by unfold symBase; omega))
            refine ⟨_, _, _, _, hrun, .inl rfl, VR.ofTok hst.ext (chunk_len _ _ _) (Nat.le_refl _) (fun i hi => ?_) (fun i hi j hj => ?_), hst, Frm.alloc _ _ _⟩
            · exact (chunk_at s len pvs (by rw [hpl]; simpa using husz) i hi).1
            · have hca := (chunk_at s len pvs (by rw [hpl]; simpa using husz) i hi)
              have hg := hca.2 j hj
              have hlt : i * s + j < pvs.length := by
                by_cases hh : i * s + j < pvs.length
                · exact hh
                · rw [List.getElem?_eq_none (by omega)] at hg; cases hg
              have hlt' : i * s + j < us.toList.length := by omega
              refine ⟨us.toList[i * s + j], ?_, ?_⟩
              · rw [← Array.getElem?_toList, List.getElem?_eq_getElem hlt']
              · have := hpr (i * s + j) hlt hlt'
                rw [List.getElem?_eq_getElem hlt] at hg
                rwa [Option.some.inj hg] at this
          · cases hb
        · cases hb
      · cases hb
    · cases hb
  · cases hb
end
end Go.Proofs.YtjpjcjnacnlhdaaGreat
