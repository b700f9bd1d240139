/- Appends; 'eop' is right. -/
import Derived.Test.YtjpjcjnacnlhdaaGreatAb10
namespace Go.Proofs.YtjpjcjnacnlhdaaGreat
open Go.RowKit

section
variable {P : Program} {o : Oper} {ρ : Operand → Value} {ρA : Operand → Option AV} {K : Kn} {h : List AObj} {w : World}

/-- The cells of a row, in order. -/
theorem row_news {es : List (List PV)} {v : Value} {sz : Nat} (hv : PR K.R K.M (.rows es) v) (hne : es ≠ []) (hs : ∀ i (h : i < es.length), es[i].length = sz) (hp : 0 < sz) :
    ∃ (g off cap : Nat) (news : List Value), v = .slice (some ⟨g, off, none⟩) es.length cap ∧ news.length = es.length * sz ∧ (∀ j u, news[j]? = some u → K.M g (off + j) = some u) ∧
      ∀ i (h : i < es.length) j (hj : j < es[i].length), ∃ u, news[i * sz + j]? = some u ∧ PR K.R K.M es[i][j] u := by
  cases hv with
  | rows es a cap g off sz' us ha hn hsz hc hr =>
    have hl0 : 0 < es.length := List.length_pos_iff.2 hne
    have e : sz' = sz := by rw [← hsz 0 hl0, hs 0 hl0]
    subst e
    rw [ha hne]
    refine ⟨g, off, cap, (List.range (es.length * sz')).map fun k => us (k / sz') (k % sz'), rfl, by simp, fun j u hj => ?_, fun i hi j hj => ?_⟩
    · have hlt : j < es.length * sz' := by
        by_cases hh : j < es.length * sz'
        · exact hh
        · rw [List.getElem?_eq_none (by simp; omega)] at hj; cases hj
      rw [List.getElem?_map, List.getElem?_range hlt] at hj
      cases hj
      have h1 : j / sz' < es.length := Nat.div_lt_of_lt_mul (by rw [Nat.mul_comm]; exact hlt)
      have := hc (j / sz') h1 (j % sz') (Nat.mod_lt _ hp)
      have e2 : j / sz' * sz' + j % sz' = j := by rw [Nat.mul_comm]; exact Nat.div_add_mod j sz'
      rwa [Nat.add_assoc, e2] at this
    · rw [hs i hi] at hj
      refine ⟨us i j, ?_, hr i hi j (by rw [hs i hi]; exact hj)⟩
      rw [List.getElem?_map, List.getElem?_range (idx_lt hi hj)]
      have e1 : (i * sz' + j) / sz' = i := by
        rw [Nat.add_comm, Nat.add_mul_div_right _ _ hp, Nat.div_eq_of_lt hj, Nat.zero_add]
      have e2 : (i * sz' + j) % sz' = j := by
        rw [Nat.add_comm, Nat.add_mul_mod_self_right, Nat.mod_eq_of_lt hj]
      simp [e1, e2]
theorem add_mid (g off j : Nat) : (⟨g, off, none⟩ : Addr).add j = ⟨g, off + j, none⟩ := Addr.add_lit g off j
theorem run_append_none (t ty e : TypeId) (i : TypeInfo) (hu : P.underlying t = some (.slice e)) (hi : P.info? e = some i) (base a : Option Addr) (n cap c : Nat) (hn : n ≤ cap) (w' : World) :
    (Builtin.append_ #[t, t] ty #[.slice base n cap, .slice a 0 c]).run P w' = .ok (.slice base n cap) w' := by
  cases base <;> cases a <;> simp [Builtin.append_, run_underlying hu, sizeOf, typeInfo, hi, Builtin.lenOf, hn, Builtin.firstCells, loadCells, loadCellsFrom, storeCells]
theorem exec_append {args : Array Operand} {s x : Operand} (ha : args.toList = [s, x]) {t : TypeId} {ts : Array TypeId} (hts : ts.toList = [t, t]) (ho : o.op = .call ⟨.builtin .append, args, ts⟩) {v : Value} {w' : World}
    (hr : (Builtin.append_ #[t, t] o.type #[ρ s, ρ x]).run P w = .ok v w') : (execOp ρ o).run P w = .ok (.value v) w' := by
  have e1 : args = #[s, x] := by rw [← Array.toArray_toList (xs := args), ha]
  have e2 : ts = #[t, t] := by rw [← Array.toArray_toList (xs := ts), hts]
  subst e1
  subst e2
  simp only [execOp, ho, resolve, invoke, builtin, Sem.run_bind, Sem.run_pure, Result.andThen_ok, List.map_toArray, List.map_cons, List.map_nil, hr]
theorem isNil_sound {a : AV} {v : Value} (hv : VR K a v) (hn : isNilSlice a = true) : v = .slice none 0 0 := by
  unfold isNilSlice at hn
  split at hn
  · exact val_eq hv rfl
  · cases hn
theorem appendG_sound {dlf enc : Nat → Nat} (H : WR K h w) {args : Array Operand} {s x : Operand} (ha : args.toList = [s, x]) {t : TypeId} {ts : Array TypeId} (hts : ts.toList = [t, t]) (ho : o.op = .call ⟨.builtin .append, args, ts⟩)
    {sA : AV} (hs : VR K sA (ρ s)) {es' : List (List PV)} (hx : PR K.R K.M (.rows es') (ρ x) ∨ (es' = [] ∧ ρ x = .slice none 0 0)) {v : AV} {h' : List AObj} {touch : List Nat} (hq : appendG dlf enc P t sA es' h = some (v, h', touch))
    (hdl : ∀ n, dlf n ≤ 1000000000000 → dlf n = dl K.R n)
    (henc : ∀ es, rowsOf sA = some es → es.length + es'.length ≤ 1000000000000 → dl K.R (enc (es.length + es'.length)) = es.length + es'.length)
    (henc0 : isNilSlice sA = true → es'.length ≤ 1000000000000 → dl K.R (enc es'.length) = es'.length) :
    Eff P o ρ K h w v h' touch := by
  unfold appendG at hq
  split at hq
  · rename_i e hu
    split at hq
    · rename_i sz by_ zc hsz hby hz
      obtain ⟨i, z, hi, hiz, hvz⟩ := zeroA_sound (K := K) hz
      have his : i.size = sz := by unfold szA at hsz; rw [hi] at hsz; simpa using hsz
      have hib : i.bytes = by_ := by unfold bytesA at hby; rw [hi] at hby; simpa using hby
      split at hq
      · split at hq
        · rename_i hc
          cases hq
          obtain ⟨base, n, cap, hse, hn⟩ : ∃ base n cap, ρ s = .slice base n cap ∧ n ≤ cap := by
            rw [Bool.or_eq_true] at hc
            rcases hc with hc | hc
            · exact ⟨none, 0, 0, isNil_sound hs hc, Nat.le_refl _⟩
            · cases hr : rowsOf sA with
              | none => rw [hr] at hc; cases hc
              | some es =>
                have := rowsOf_sound hs hr
                generalize ρ s = sv at this
                cases this with
                | rows _ a cap g off sz us ha hn _ _ _ => exact ⟨a, _, cap, rfl, hn⟩
          obtain ⟨a, c, hxe⟩ : ∃ a c, ρ x = .slice a 0 c := by
            rcases hx with hx | ⟨_, hx⟩
            · generalize ρ x = xv at hx
              cases hx with
              | rows _ a cap g off sz us ha hn _ _ _ => exact ⟨a, cap, rfl⟩
            · exact ⟨none, 0, hx⟩
          refine ⟨_, ρ s, w, K, exec_append ha hts ho (v := ρ s) ?_, .inl rfl, hs, Step.refl H, Frm.refl _ _⟩
          rw [hse, hxe]
          exact run_append_none t o.type e i hu hi base a n cap c hn w
        · cases hq
      · rename_i c0 cs0
        split at hq
        · rename_i hc
          obtain ⟨hp, hzl, hall⟩ := hc
          have hsize : ∀ k (hk : k < (c0 :: cs0).length), (c0 :: cs0)[k].length = sz := by
            intro k hk
            rw [List.all_eq_true] at hall
            simpa using hall _ (List.getElem_mem hk)
          have hx' : PR K.R K.M (.rows (c0 :: cs0)) (ρ x) := by
            rcases hx with hx | ⟨hx, _⟩
            · exact hx
            · cases hx
          obtain ⟨gx, offx, capx, news, hxe, hnl, hnM, hnP⟩ := row_news hx' (by simp) hsize hp
          have hncell : ∀ j u, news[j]? = some u → w.cell? ((⟨gx, offx, none⟩ : Addr).add j) = some u := fun j u hj => by
            rw [add_mid]; exact H.agr _ _ _ (hnM j u hj)
          have h1 : ∀ u ∈ news, u.oneCell' = true := by
            intro u hu'
            obtain ⟨k, hk, rfl⟩ := List.getElem_of_mem hu'
            have hk' := hk
            rw [hnl] at hk
            have h1 : k / sz < (c0 :: cs0).length := Nat.div_lt_of_lt_mul (by rw [Nat.mul_comm]; exact hk)
            obtain ⟨u', hu1, hu2⟩ := hnP (k / sz) h1 (k % sz) (by rw [hsize _ h1]; exact Nat.mod_lt _ hp)
            have e2 : k / sz * sz + k % sz = k := by rw [Nat.mul_comm]; exact Nat.div_add_mod k sz
            rw [e2, List.getElem?_eq_getElem hk'] at hu1
            rw [Option.some.inj hu1]
            exact hu2.one
          have hzs : z.cells.size = sz := by have := hvz.1; simp at this; omega
          split at hq
          · rename_i tk es
            split at hq
            · rename_i ty sz' len htk
              split at hq
              · rename_i hcond
                obtain ⟨rfl, rfl, hlen, hmx, hbt⟩ := hcond
                cases hq
                obtain ⟨g, cs, hm, hwg, hcs, hE, hZ, hMn⟩ := H.tok tk ty sz' len htk
                generalize hse : ρ s = sv at hs
                cases hs with
                | trows _ _ g' us hm' hn' hsz' hc' hr' =>
                  rw [hm] at hm'
                  cases hm'
                  rw [hE] at hsz' hc'
                  have hdl' : dl K.R len = es.length := by rw [← hdl len (by omega), hlen]
                  rw [← hlen] at hmx hbt
                  have henc' := henc es rfl (by omega)
                  rw [hdl'] at hMn
                  rw [← hlen]
                  have hold : ∀ o v, K.M g o = some v → o < es.length * sz' ∧ cs[o]? = some v := by
                    intro o v hmv
                    refine ⟨?_, ?_⟩
                    · by_cases hh : o < es.length * sz'
                      · exact hh
                      · rw [hMn o (by omega)] at hmv; cases hmv
                    · have := H.agr g o v hmv
                      simpa [World.cell?, hwg] using this
                  have hcell : ∀ i (hi : i < es.length) j (hj : j < es[i].length), ∃ u, cs[i * sz' + j]? = some u ∧ PR K.R K.M es[i][j] u := by
                    intro i hi j hj
                    have hj' := hj
                    rw [hsz' i hi] at hj'
                    exact ⟨us i j, (hold _ _ (hc' i hi j hj')).2, hr' i hi j hj⟩
                  have hmul : es.length * sz' ≤ cs.size := by rw [hcs]; exact Nat.mul_le_mul_right _ hn'
                  have hsetlen : (h.set tk .dead).length = h.length := by simp
                  have htl : tk < h.length := by
                    by_cases hh : tk < h.length
                    · exact hh
                    · rw [List.getElem?_eq_none (by omega)] at htk; cases htk
                  have hlive : ∀ (j : Nat) x, (h.set tk .dead)[j]? = some x → x.live = true → h[j]? = some x ∧ j ≠ tk := by
                    intro j x hj hl
                    rw [List.getElem?_set] at hj
                    by_cases ej : tk = j
                    · rw [if_pos ej, if_pos (by omega)] at hj; cases hj; cases hl
                    · rw [if_neg ej] at hj; exact ⟨hj, fun e => ej e.symm⟩
                  have esz : ∀ k (hk : k < (es ++ c0 :: cs0).length), (es ++ c0 :: cs0)[k].length = sz' := by
                    intro k hk
                    by_cases hkl : k < es.length
                    · rw [List.getElem_append_left hkl]; exact hsz' k hkl
                    · rw [List.getElem_append_right (by omega)]; exact hsize _ _
                  have ecell : ∀ (cur : Array Value), (∀ q, q < es.length * sz' → cur[q]? = cs[q]?) → (∀ q, q < news.length → cur[es.length * sz' + q]? = news[q]?) →
                      ∀ i (hi : i < (es ++ c0 :: cs0).length) j (hj : j < (es ++ c0 :: cs0)[i].length), ∃ u, cur[i * sz' + j]? = some u ∧ PR K.R K.M (es ++ c0 :: cs0)[i][j] u := by
                    intro cur hq1 hq2 i hi j hj
                    by_cases hil : i < es.length
                    · have e1 : (es ++ c0 :: cs0)[i] = es[i] := List.getElem_append_left hil
                      have hj1 : j < es[i].length := by rw [← e1]; exact hj
                      obtain ⟨u, hu1, hu2⟩ := hcell i hil j hj1
                      refine ⟨u, ?_, by simpa [e1] using hu2⟩
                      rw [hq1 _ (idx_lt hil (by rw [← hsz' i hil]; exact hj1))]; exact hu1
                    · have e1 : (es ++ c0 :: cs0)[i] = (c0 :: cs0)[i - es.length]'(by simp at hi ⊢; omega) := List.getElem_append_right (by omega)
                      have hi1 : i - es.length < (c0 :: cs0).length := by simp at hi ⊢; omega
                      have hj1 : j < ((c0 :: cs0)[i - es.length]).length := by rw [← e1]; exact hj
                      obtain ⟨u, hu1, hu2⟩ := hnP (i - es.length) hi1 j hj1
                      refine ⟨u, ?_, by simpa [e1] using hu2⟩
                      have hjs : j < sz' := by rw [← hsize _ hi1]; exact hj1
                      have e2 : i * sz' + j = es.length * sz' + ((i - es.length) * sz' + j) := by
                        rw [← Nat.add_assoc, ← Nat.add_mul]
                        congr 2
                        omega
                      rw [e2, hq2 _ (by rw [hnl]; exact idx_lt hi1 hjs)]
                      exact hu1
                  by_cases hroom : es.length + (c0 :: cs0).length ≤ K.Z g
                  · have hfit : es.length * sz' + news.length ≤ cs.size := by rw [hnl, hcs, ← Nat.add_mul]; exact Nat.mul_le_mul_right _ hroom
                    have hrun := run_append_room (P := P) w t o.type ty i hu hi g es.length (K.Z g) cs hwg ⟨gx, offx, none⟩ (c0 :: cs0).length capx news (by rw [his]; exact hnl) hncell h1 hroom (by rw [his]; exact hfit)
                    rw [his] at hrun
                    rw [← hse, ← hxe] at hrun
                    generalize hcur : (cs.toList.take (es.length * sz') ++ news ++ cs.toList.drop (es.length * sz' + news.length)).toArray = cur at hrun
                    have hcurs : cur.size = K.Z g * sz' := by rw [← hcur, ← hcs]; simp; omega
                    have q1 : ∀ q, q < es.length * sz' → cur[q]? = cs[q]? := by
                      intro q hq
                      rw [← hcur, List.getElem?_toArray, List.append_assoc, List.getElem?_append_left (by simp; omega), List.getElem?_take, if_pos hq, Array.getElem?_toList]
                    have q2 : ∀ q, q < news.length → cur[es.length * sz' + q]? = news[q]? := by
                      intro q hq
                      rw [← hcur, List.getElem?_toArray, List.getElem?_append_left (by simp; omega), List.getElem?_append_right (by simp; omega)]
                      congr 1
                      simp
                      omega
                    have hst := Step.withTok H (h1 := h.set tk .dead) (w' := w.setRow g cur) ty g (es.length + (c0 :: cs0).length) sz' (K.Z g) cur (setRow_heap w g cs cur ty _ hwg) hcurs hZ ⟨rfl, rfl, rfl, by simp [World.setRow], fun k _ hk => setRow_other w g k _ hk⟩
                      (fun o v hmv => by
                        obtain ⟨h2, h3⟩ := hold o v hmv
                        exact ⟨Nat.lt_of_lt_of_le h2 (Nat.mul_le_mul_right _ (by omega)), by rw [q1 o h2]; exact h3⟩)
                      hsetlen (fun j x hj hl => by
                        obtain ⟨h2, h3⟩ := hlive j x hj hl
                        exact ⟨h2, fun e => h3 (H.inj j tk x _ g h2 htk hl rfl e hm)⟩)
                      (fun i _ => ⟨rfl, hE⟩) (.inr ⟨tk, _, htk, rfl, hm⟩) henc'
                    refine ⟨_, _, _, _, exec_append ha hts ho hrun, .inl rfl, VR.ofTok hst.ext (by simp) hroom esz (ecell cur q1 q2), hst, ⟨rfl, rfl, rfl, by simp [World.setRow], fun k _ hk => setRow_other w g k _ (fun e => hk ⟨tk, _, by simp, htk, rfl, by rw [e]; exact hm⟩)⟩⟩
                  · have holds : ∀ j v, (cs.toList.take (es.length * sz'))[j]? = some v → w.cell? ((⟨g, 0, none⟩ : Addr).add j) = some v := by
                      intro j v hj
                      rw [add_mid, Nat.zero_add]
                      rw [List.getElem?_take] at hj
                      split at hj
                      · rw [Array.getElem?_toList] at hj
                        simp [World.cell?, hwg, hj]
                      · cases hj
                    have hrun := run_append_grow (P := P) w t o.type ty i z hu hi hiz ⟨g, 0, none⟩ es.length (K.Z g) (cs.toList.take (es.length * sz')) (by rw [his]; simp; omega) holds ⟨gx, offx, none⟩ (c0 :: cs0).length capx news (by rw [his]; exact hnl) hncell (by omega) (by omega) (growslice_fits (by omega) (by rw [hib]; exact hbt))
                    rw [← hse, ← hxe] at hrun
                    have hge := grownCap_ge w (es.length + (c0 :: cs0).length) (K.Z g) ty
                    have hcm := grownCap_le_maxLen w (es.length + (c0 :: cs0).length) (K.Z g) ty (by unfold maxLen; omega)
                    generalize grownCap w (es.length + (c0 :: cs0).length) (K.Z g) ty = cap at *
                    generalize hcur : (cs.toList.take (es.length * sz')).toArray ++ news.toArray ++ Builtin.zeroCells z.cells (cap - (es.length + (c0 :: cs0).length)) = cur at hrun
                    have hcurs : cur.size = cap * sz' := by
                      rw [← hcur]
                      simp only [Array.size_append, List.size_toArray, size_zeroCells, hzs, hnl, List.length_take, Array.length_toList, Nat.min_eq_left hmul, ← Nat.add_mul]
                      congr 1
                      omega
                    have q1 : ∀ q, q < es.length * sz' → cur[q]? = cs[q]? := by
                      intro q hq
                      rw [← hcur, Array.getElem?_append_left (by simp; omega), Array.getElem?_append_left (by simp; omega), List.getElem?_toArray, List.getElem?_take, if_pos hq, Array.getElem?_toList]
                    have q2 : ∀ q, q < news.length → cur[es.length * sz' + q]? = news[q]? := by
                      intro q hq
                      rw [← hcur, Array.getElem?_append_left (by simp; omega), Array.getElem?_append_right (by simp; omega), List.getElem?_toArray]
                      congr 1
                      simp
                      omega
                    have hst := Step.withTok H (h1 := h.set tk .dead) (w' := w.drew.alloc (.cells cur ty)) ty w.heap.size (es.length + (c0 :: cs0).length) sz' cap cur (heap_alloc_new w.drew _) hcurs hcm (Frm.drewAlloc _ _ _)
                      (fun o v hmv => by rw [H.noM (Nat.le_refl _) o] at hmv; cases hmv)
                      hsetlen (fun j x hj hl => by
                        obtain ⟨h2, h3⟩ := hlive j x hj hl
                        exact ⟨h2, fun e => by have := H.lt j _ e; omega⟩)
                      (fun i hi => by have := H.lt i _ hi; omega) (.inl (Nat.le_refl _)) henc'
                    refine ⟨_, _, _, _, exec_append ha hts ho hrun, .inl rfl, VR.ofTok hst.ext (by simp) hge esz (ecell cur q1 q2), hst, Frm.drewAlloc _ _ _⟩
              · cases hq
            · cases hq
          · split at hq
            · rename_i hcond
              obtain ⟨hnil, hmx, hbt⟩ := hcond
              cases hq
              have hse := isNil_sound hs hnil
              have hrun := run_append_nil (P := P) w t o.type e i z hu hi hiz ⟨gx, offx, none⟩ (c0 :: cs0).length capx news (by rw [his]; exact hnl) hncell (by simp) (by omega) (by rw [hib]; omega)
              rw [← hse, ← hxe] at hrun
              have hge := grownCap_ge w (c0 :: cs0).length 0 e
              have hcm := grownCap_le_maxLen w (c0 :: cs0).length 0 e (by unfold maxLen; omega)
              generalize grownCap w (c0 :: cs0).length 0 e = cap at *
              generalize hcur : news.toArray ++ Builtin.zeroCells z.cells (cap - (c0 :: cs0).length) = cur at hrun
              have hcurs : cur.size = cap * sz := by
                rw [← hcur]
                simp only [Array.size_append, List.size_toArray, size_zeroCells, hzs, hnl, ← Nat.add_mul]
                congr 1
                omega
              have hst := Step.newRow H (w' := w.drew.alloc (.cells cur e)) e (c0 :: cs0).length sz cap cur rfl (Frm.drewAlloc _ _ _) hcurs hcm (henc0 hnil hmx)
              refine ⟨_, _, _, _, exec_append ha hts ho hrun, .inl rfl, VR.ofTok hst.ext rfl hge hsize (fun i hi j hj => ?_), hst, Frm.drewAlloc _ _ _⟩
              obtain ⟨u, hu1, hu2⟩ := hnP i hi j hj
              refine ⟨u, ?_, hu2⟩
              have hjs : j < sz := by rw [← hsize _ hi]; exact hj
              rw [← hcur, Array.getElem?_append_left (by rw [List.size_toArray, hnl]; exact idx_lt hi hjs), List.getElem?_toArray]
              exact hu1
            · cases hq
        · cases hq
    · cases hq
  · cases hq
theorem append_sound (H : WR K h w) {args : Array Operand} {s x : Operand} (ha : args.toList = [s, x]) {t : TypeId} {ts : Array TypeId} (hts : ts.toList = [t, t]) (ho : o.op = .call ⟨.builtin .append, args, ts⟩)
    {sA : AV} (hs : VR K sA (ρ s)) {es' : List (List PV)} (hx : PR K.R K.M (.rows es') (ρ x) ∨ (es' = [] ∧ ρ x = .slice none 0 0)) {v : AV} {h' : List AObj} {touch : List Nat} (hq : appendA P t sA es' h = some (v, h', touch)) :
    Eff P o ρ K h w v h' touch :=
  appendG_sound H ha hts ho hs hx hq (fun n hn => (dl_small (by unfold symBase; simp only [id] at hn ⊢; omega)).symm) (fun es _ hn => dl_small (by unfold symBase; simp only [id]; omega)) (fun _ hn => dl_small (by unfold symBase; simp only [id]; omega))
end
end Go.Proofs.YtjpjcjnacnlhdaaGreat
