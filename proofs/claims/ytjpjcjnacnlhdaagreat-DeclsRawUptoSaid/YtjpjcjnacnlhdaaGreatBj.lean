/- Readers of the data, with a bound on the bulk. -/
import Derived.Test.YtjpjcjnacnlhdaaGreatRows
import Derived.Test.YtjpjcjnacnlhdaaGreatBh
import Derived.ChangeArms
namespace Go.Proofs.YtjpjcjnacnlhdaaGreat
open Go.RowKit
set_option linter.unusedSimpArgs false
set_option linter.unusedVariables false

def Kw (w : World) : Kn := ⟨fun g o => w.cell? ⟨g, o, none⟩, fun _ => 0, fun _ => 0, fun _ => none, fun _ => .any⟩
theorem WR.world (w : World) : WR (Kw w) [] w := by
  refine ⟨fun _ _ => rfl, (fun i hi => by simp at hi), (fun i g h => by cases h), (fun i ty cells h => by simp at h), (fun i ks vs h => by simp at h), (fun i ty sz len h => by simp at h), (fun i j x y g h => by simp at h), (fun i ty cells g h => by simp at h), fun g o v h => h⟩
def AllR (w : World) (ps : List PV) (cs : List Value) : Prop := ps.length = cs.length ∧ ∀ i (h : i < ps.length) (h' : i < cs.length), PR (Kw w).R (Kw w).M ps[i] cs[i]
section
variable {H : Type} {enc : TypeId × Value → H} {P : Program} {w : World} {held : Bool}
abbrev rd (enc : TypeId × Value → H) (P : Program) (w : World) (held : Bool) (n : Nat) (t : TypeId) (cs : List Value) (d : DataW H) : Prop := (∃ q, DataW.trod enc P w 0 (fun _ => true) held n t cs = some (d, q)) ∧ Rows.uptoBulk d ≤ 1048576
theorem bulkAll_sum {α : Type} (size : α → Nat) : ∀ (l : List α) (ds : List (DataW H)), l.length = ds.length → (∀ i (h : i < l.length) (h' : i < ds.length), size l[i] ≤ Rows.uptoBulk ds[i]) → (l.map size).sum ≤ Rows.uptoBulkAll ds
  | [], [], _, _ => by simp [Rows.uptoBulkAll]
  | a :: l, d :: ds, hl, h => by
    have h0 := h 0 (by simp) (by simp)
    have := bulkAll_sum size l ds (by simpa using hl) (fun i hi hi' => by
      have := h (i + 1) (by simpa using hi) (by simpa using hi')
      simpa using this)
    simp only [List.map_cons, List.sum_cons, Rows.uptoBulkAll]
    simp only [List.getElem_cons_zero] at h0
    omega
  | [], _ :: _, hl, _ => by simp at hl
  | _ :: _, [], hl, _ => by simp at hl
theorem bulk_mem : ∀ (ds : List (DataW H)) (i : Nat) (h : i < ds.length), Rows.uptoBulk ds[i] ≤ Rows.uptoBulkAll ds
  | [], _, h => by simp at h
  | d :: ds, 0, _ => by simp only [List.getElem_cons_zero, Rows.uptoBulkAll]; omega
  | d :: ds, i + 1, h => by
    have := bulk_mem ds i (by simpa using h)
    simp only [List.getElem_cons_succ, Rows.uptoBulkAll]; omega
theorem rd_sliceS {α : Type} (cells : α → List PV) (Q : α → Prop) (size : α → Nat) {t e : TypeId} {sz n : Nat} {cs : List Value} {d : DataW H} (ht : P.underlying t = some (.slice e)) (hsz : P.cellsOf e = sz) (hpos : 0 < sz) (hc : ∀ x, (cells x).length = sz)
    (he : ∀ m cs d, m < n → rd enc P w held m e cs d → ∃ x, AllR w (cells x) cs ∧ Q x ∧ size x ≤ Rows.uptoBulk d) (h : rd enc P w held n t cs d) :
    ∃ (l : List α) (c : Value), cs = [c] ∧ PR (Kw w).R (Kw w).M (.rows (l.map cells)) c ∧ l.length ≤ maxN ∧ (l.map size).sum + 1 ≤ Rows.uptoBulk d ∧ ∀ x ∈ l, Q x := by
  obtain ⟨⟨q, h⟩, hbk⟩ := h
  rcases DataW.trod_slice ht h with ⟨rfl, hx⟩ | ⟨a, len, cap, elems, rest, m, rfl, rfl, hx, _, hl, hcap, hel, hat, _, _⟩
  · cases hx
    exact ⟨[], _, rfl, PR.nilRow, Nat.zero_le _, by simp [Rows.uptoBulk], fun x hx => by cases hx⟩
  · cases hx
    have hbk2 := hbk
    simp only [Rows.uptoBulk] at hbk2
    have key : ∀ i : Fin len, ∃ x : α, ∃ us : List Value, w.cells? 0 (a.add (i * sz)) sz = some us ∧ AllR w (cells x) us ∧ Q x ∧ ∃ (hi : i < elems.length), size x ≤ Rows.uptoBulk elems[i].1 := by
      intro i
      have := hat i i.2
      rw [hsz, List.getElem?_eq_getElem (by rw [hel]; exact i.2)] at this
      simp only [Option.bind_eq_some_iff] at this
      obtain ⟨us, h1, h2⟩ := this
      have hie : (i : Nat) < elems.length := by rw [hel]; exact i.2
      have hbm := bulk_mem (elems.map (·.1)) i (by simpa using hie)
      simp only [List.getElem_map] at hbm
      obtain ⟨x, h3, h4, h5⟩ := he m us _ (by omega) ⟨⟨_, h2⟩, Nat.le_trans hbm (by omega)⟩
      exact ⟨x, us, h1, h3, h4, hie, h5⟩
    let g : Fin len → α := fun i => (key i).choose
    have hg : ∀ i : Fin len, ∃ us : List Value, w.cells? 0 (a.add (i * sz)) sz = some us ∧ AllR w (cells (g i)) us ∧ Q (g i) ∧ ∃ (hi : i < elems.length), size (g i) ≤ Rows.uptoBulk elems[i].1 := fun i => (key i).choose_spec
    refine ⟨List.ofFn g, _, rfl, ?_, ?_, ?_, ?_⟩
    · have hspot : ∀ i : Nat, i < len → ∀ j, j < sz → (a.add (i * sz)).add j = ⟨a.block, a.off + i * sz + j, none⟩ := by
        intro i hi j hj
        have hsp : a.spot = none := by
          obtain ⟨us, h1, _⟩ := hg ⟨0, by omega⟩
          obtain ⟨_, hlen, hcell⟩ := World.cells?_some h1
          have := hcell 0 hpos
          have hlt : 0 < us.length := by omega
          rw [List.getElem?_eq_getElem hlt] at this
          simp only [Nat.zero_mul, Addr.add, if_true, World.cell?] at this
          split at this
          · split at this
            · cases this
            · rename_i hs
              cases hsp : a.spot with
              | none => rfl
              | some x => rw [hsp] at hs; simp at hs
          · cases this
        obtain ⟨b, o, sp⟩ := a
        simp only at hsp
        subst hsp
        unfold Addr.add
        by_cases h1 : i * sz = 0
        · by_cases h2 : j = 0
          · simp [h1, h2]
          · simp [h1, h2]
        · by_cases h2 : j = 0
          · simp [h1, h2]
          · simp [h1, h2]
      have hcs : ∀ i : Nat, ∀ hi : i < len, ∃ us : List Value, us.length = sz ∧ AllR w (cells (g ⟨i, hi⟩)) us ∧ ∀ j, j < sz → w.cell? ⟨a.block, a.off + i * sz + j, none⟩ = us[j]? := by
        intro i hi
        obtain ⟨us, h1, h2, _⟩ := hg ⟨i, hi⟩
        obtain ⟨_, hlen, hcell⟩ := World.cells?_some h1
        exact ⟨us, hlen, h2, fun j hj => by rw [← hspot i hi j hj]; exact hcell j hj⟩
      have hlen : (List.ofFn g).length = len := by simp
      have := PR.rows (R := (Kw w).R) (M := (Kw w).M) ((List.ofFn g).map cells) (some a) cap a.block a.off sz (fun i j => if hi : i < len then (hcs i hi).choose.getD j (.bool false) else .bool false)
        (fun hne => by
          have hl0 : 0 < len := by
            cases len with
            | zero => simp at hne
            | succ _ => omega
          have := hspot 0 hl0 0 hpos
          simp [Addr.add] at this
          rw [this]) (by simpa using hl) (fun i hi => by simp [hc]) ?_ ?_
      · simpa using this
      · intro i hi j hj
        have hi' : i < len := by simpa using hi
        simp only [hi', dif_pos]
        obtain ⟨h1, h2, h3⟩ := (hcs i hi').choose_spec
        show w.cell? _ = _
        rw [h3 j hj, List.getD_eq_getElem?_getD, List.getElem?_eq_getElem (by omega)]
        rfl
      · intro i hi j hj
        have hi' : i < len := by simpa using hi
        simp only [hi', dif_pos]
        obtain ⟨h1, h2, h3⟩ := (hcs i hi').choose_spec
        have hj' : j < sz := by simpa [hc] using hj
        have := h2.2 j (by rw [hc]; exact hj') (by omega)
        simp only [List.getElem_map, List.getElem_ofFn]
        rw [List.getD_eq_getElem?_getD, List.getElem?_eq_getElem (by omega)]
        exact this
    · simp only [List.length_ofFn]
      have : maxLen = maxN := rfl
      omega
    · have := bulkAll_sum size (List.ofFn g) (elems.map (·.1)) (by simp [hel]) (fun i hi hi' => by
        obtain ⟨us, _, _, _, h4, h5⟩ := hg ⟨i, by simpa using hi⟩
        simpa using h5)
      simp only [Rows.uptoBulk]
      omega
    · intro x hx
      obtain ⟨i, rfl⟩ := List.mem_ofFn.1 hx
      obtain ⟨_, _, _, h4, _⟩ := hg i
      exact h4
theorem rd_slice {α : Type} (cells : α → List PV) (Q : α → Prop) {t e : TypeId} {sz n : Nat} {cs : List Value} {d : DataW H} (ht : P.underlying t = some (.slice e)) (hsz : P.cellsOf e = sz) (hpos : 0 < sz) (hc : ∀ x, (cells x).length = sz)
    (he : ∀ m cs d, m < n → rd enc P w held m e cs d → ∃ x, AllR w (cells x) cs ∧ Q x) (h : rd enc P w held n t cs d) :
    ∃ (l : List α) (c : Value), cs = [c] ∧ PR (Kw w).R (Kw w).M (.rows (l.map cells)) c ∧ l.length ≤ maxN ∧ ∀ x ∈ l, Q x := by
  obtain ⟨l, c, h1, h2, h3, _, h4⟩ := rd_sliceS cells Q (fun _ => 0) ht hsz hpos hc (fun m cs d hm h => by
    obtain ⟨x, g1, g2⟩ := he m cs d hm h
    exact ⟨x, g1, g2, Nat.zero_le _⟩) h
  exact ⟨l, c, h1, h2, h3, h4⟩
def stB (P : Program) (t : TypeId) (l : List (Nat × Nat × Nat)) : Bool := match P.underlying t with
  | some (.struct fs) => decide (fs.toList.map (fun f => (f.type, f.offset, P.cellsOf f.type)) = l)
  | _ => false
theorem rd_struct {t : TypeId} {l : List (Nat × Nat × Nat)} {n : Nat} {cs : List Value} {d : DataW H} (hs : stB P t l = true) (h : rd enc P w held n t cs d) :
    ∃ (ds : List (DataW H)) (m : Nat), n = m + 1 ∧ d = .agg ds ∧ cs.length = P.cellsOf t ∧ ds.length = l.length ∧ ∀ i ty off c, l[i]? = some (ty, off, c) → ∃ (hi : i < ds.length), rd enc P w held m ty ((cs.drop off).take c) ds[i] := by
  unfold stB at hs
  split at hs
  · rename_i fs hfs
    have hs := of_decide_eq_true hs
    obtain ⟨⟨q, h⟩, hbk⟩ := h
    obtain ⟨xs, m, hm, hx, hl, hlen, hf⟩ := DataW.trod_struct hfs h
    cases hx
    have hbk2 := hbk
    simp only [Rows.uptoBulk] at hbk2
    have hll : l.length = fs.size := by rw [← hs]; simp
    refine ⟨_, m, hm, rfl, hl, by simp [hlen, hll], fun i ty off c hi => ?_⟩
    rw [← hs, List.getElem?_map] at hi
    obtain ⟨f, hf1, hf2⟩ := map_some' hi
    simp only [Prod.mk.injEq] at hf2
    obtain ⟨e1, e2, e3⟩ := hf2
    have hlt : i < xs.length := by
      have : i < fs.toList.length := lt_of_get hf1
      rw [hlen]; simpa using this
    have := hf i f (by simpa using hf1)
    rw [List.getElem?_eq_getElem hlt] at this
    have hbm := bulk_mem (xs.map (·.1)) i (by simpa using hlt)
    refine ⟨by simpa using hlt, ⟨xs[i].2, ?_⟩, by omega⟩
    rw [← e1, ← e2, ← e3]
    simpa using this
  · cases hs
end
end Go.Proofs.YtjpjcjnacnlhdaaGreat
namespace Go.Proofs.YtjpjcjnacnlhdaaGreat
open Go.RowKit
set_option linter.unusedSimpArgs false
set_option linter.unusedVariables false

section
variable {H : Type} {enc : TypeId × Value → H} {w : World} {held : Bool} {n : Nat} {cs : List Value} {d : DataW H}
theorem AllR.nil : AllR w [] [] := ⟨rfl, fun i h => by simp at h⟩
theorem AllR.cons {p : PV} {v : Value} {ps : List PV} {vs : List Value} (h : PR (Kw w).R (Kw w).M p v) (hl : AllR w ps vs) : AllR w (p :: ps) (v :: vs) := by
  refine ⟨by simp [hl.1], fun i hi hi' => ?_⟩
  cases i with
  | zero => exact h
  | succ i => exact hl.2 i (by simpa using hi) (by simpa using hi')
theorem AllR.append {ps qs : List PV} {vs us : List Value} (h : AllR w ps vs) (h' : AllR w qs us) : AllR w (ps ++ qs) (vs ++ us) := by
  refine ⟨by simp [h.1, h'.1], fun i hi hi' => ?_⟩
  by_cases hl : i < ps.length
  · have hl' : i < vs.length := by rw [← h.1]; exact hl
    rw [List.getElem_append_left hl, List.getElem_append_left hl']
    exact h.2 i hl hl'
  · have e := h.1
    rw [List.getElem_append_right (by omega), List.getElem_append_right (by omega)]
    have := h'.2 (i - ps.length) (by rw [List.length_append] at hi; omega) (by rw [List.length_append] at hi'; omega)
    simpa only [e] using this
theorem AllR.step (off c : Nat) {ps qs : List PV} (h : AllR w ps ((cs.drop off).take c)) (ht : AllR w qs (cs.drop (off + c))) : AllR w (ps ++ qs) (cs.drop off) := by
  rw [← List.take_append_drop c (cs.drop off), List.drop_drop]
  exact AllR.append h ht
theorem AllR.fin {k : Nat} (h : cs.length = k) : AllR w [] (cs.drop k) := by
  rw [List.drop_eq_nil_of_le (by omega)]
  exact AllR.nil
theorem u_int : Tryz.prog.underlying 3 = some (.int .i64) := by kernel_rfl
theorem u_int64 : Tryz.prog.underlying 2 = some (.int .i64) := by kernel_rfl
theorem ud_str : Tryz.prog.underlying 9 = some .string := by kernel_rfl
theorem u_strs : Tryz.prog.underlying 52 = some (.slice 9) := by kernel_rfl
theorem u_tys : Tryz.prog.underlying 45 = some (.slice 47) := by kernel_rfl
theorem u_pts : Tryz.prog.underlying 176 = some (.slice 178) := by kernel_rfl
theorem u_exs : Tryz.prog.underlying 84 = some (.slice 87) := by kernel_rfl
theorem u_als : Tryz.prog.underlying 85 = some (.slice 180) := by kernel_rfl
theorem u_bds : Tryz.prog.underlying 26 = some (.slice 89) := by kernel_rfl
theorem u_cns : Tryz.prog.underlying 71 = some (.slice 109) := by kernel_rfl
theorem u_dts : Tryz.prog.underlying 23 = some (.slice 73) := by kernel_rfl
theorem u_mds : Tryz.prog.underlying 75 = some (.slice 119) := by kernel_rfl
theorem u_cls : Tryz.prog.underlying 24 = some (.slice 77) := by kernel_rfl
theorem u_pds : Tryz.prog.underlying 79 = some (.slice 132) := by kernel_rfl
theorem u_its : Tryz.prog.underlying 25 = some (.slice 81) := by kernel_rfl
theorem rd_int (h : rd enc Tryz.prog w held n 3 cs d) : ∃ k : Int, AllR w [iv k] cs := by
  obtain ⟨⟨q, h⟩, _⟩ := h
  obtain ⟨k, rfl, hx, _⟩ := DataW.trod_int u_int h
  exact ⟨k, .cons (.lit _ rfl) .nil⟩
theorem rd_int64 (h : rd enc Tryz.prog w held n 2 cs d) : ∃ k : Int, AllR w [iv k] cs := by
  obtain ⟨⟨q, h⟩, _⟩ := h
  obtain ⟨k, rfl, hx, _⟩ := DataW.trod_int u_int64 h
  exact ⟨k, .cons (.lit _ rfl) .nil⟩
theorem rd_str (h : rd enc Tryz.prog w held n 9 cs d) : ∃ s : ByteArray, AllR w [sv s] cs := by
  obtain ⟨⟨q, h⟩, _⟩ := h
  obtain ⟨s, rfl, _, _⟩ := DataW.trod_string ud_str h
  exact ⟨s, .cons (.lit _ rfl) .nil⟩
theorem rd_rows {α : Type} (cells : α → List PV) (Q : α → Prop) {t e : TypeId} {sz : Nat} (ht : Tryz.prog.underlying t = some (.slice e)) (hsz : Tryz.prog.cellsOf e = sz) (hpos : 0 < sz) (hc : ∀ x, (cells x).length = sz)
    (he : ∀ m cs d, m < n → rd enc Tryz.prog w held m e cs d → ∃ x, AllR w (cells x) cs ∧ Q x) (h : rd enc Tryz.prog w held n t cs d) :
    ∃ l : List α, AllR w [.rows (l.map cells)] cs ∧ l.length ≤ maxN ∧ ∀ x ∈ l, Q x := by
  obtain ⟨l, c, rfl, h1, h2, h3⟩ := rd_slice cells Q ht hsz hpos hc he h
  exact ⟨l, .cons h1 .nil, h2, h3⟩
theorem rd_strs (h : rd enc Tryz.prog w held n 52 cs d) : ∃ l : List ByteArray, AllR w [strs l] cs ∧ l.length ≤ maxN := by
  obtain ⟨l, h1, h2, _⟩ := rd_rows (fun s : ByteArray => [sv s]) (fun _ => True) (sz := 1) u_strs (by kernel_rfl) (by decide) (fun _ => rfl) (fun m cs d _ h => by
    obtain ⟨s, hs⟩ := rd_str h
    exact ⟨s, hs, trivial⟩) h
  exact ⟨l, h1, h2⟩
theorem Ty.cells_len (x : Ty) : x.cells.length = 4 := by rw [Ty.cells_eq]; rfl
theorem Pt.cells_len (x : Pt) : x.cells.length = 5 := by rw [Pt.cells_eq]; rfl
theorem Ex.cells_len (x : Ex) : x.cells.length = 11 := by rw [Ex.cells_eq]; rfl
theorem Al.cells_len (x : Al) : x.cells.length = 16 := by rw [Al.cells_eq]; rfl
theorem Bd.cells_len (x : Bd) : x.cells.length = 13 := by rw [Bd.cells_eq]; rfl
theorem Cn.cells_len (x : Cn) : x.cells.length = 3 := by rw [Cn.cells]; rfl
theorem Dt.cells_len (x : Dt) : x.cells.length = 5 := by rw [Dt.cells]; rfl
theorem Md.cells_len (x : Md) : x.cells.length = 6 := by rw [Md.cells]; rfl
theorem Cl.cells_len (x : Cl) : x.cells.length = 6 := by rw [Cl.cells]; rfl
theorem Pd.cells_len (x : Pd) : x.cells.length = 5 := by rw [Pd.cells]; rfl
theorem It.cells_len (x : It) : x.cells.length = 8 := by rw [It.cells]; rfl
theorem rd_rowsS {α : Type} (cells : α → List PV) (Q : α → Prop) (size : α → Nat) {t e : TypeId} {sz : Nat} (ht : Tryz.prog.underlying t = some (.slice e)) (hsz : Tryz.prog.cellsOf e = sz) (hpos : 0 < sz) (hc : ∀ x, (cells x).length = sz)
    (he : ∀ m cs d, m < n → rd enc Tryz.prog w held m e cs d → ∃ x, AllR w (cells x) cs ∧ Q x ∧ size x ≤ Rows.uptoBulk d) (h : rd enc Tryz.prog w held n t cs d) :
    ∃ l : List α, AllR w [.rows (l.map cells)] cs ∧ l.length ≤ maxN ∧ (l.map size).sum + 1 ≤ Rows.uptoBulk d ∧ ∀ x ∈ l, Q x := by
  obtain ⟨l, c, rfl, h1, h2, h3, h4⟩ := rd_sliceS cells Q size ht hsz hpos hc he h
  exact ⟨l, .cons h1 .nil, h2, h3, h4⟩
theorem allL_len : ∀ l : List Ty, (allL l).length = (l.map fun t => (allT t).length).sum
  | [] => by rw [allL]; rfl
  | t :: l => by rw [allL, List.length_append, allL_len l]; rfl
theorem rd_tyS : ∀ (n : Nat) (cs : List Value) (d : DataW H), rd enc Tryz.prog w held n 47 cs d → ∃ v : Ty, AllR w v.cells cs ∧ v.Ok ∧ (allT v).length ≤ Rows.uptoBulk d := by
  intro n
  induction n using Nat.strongRecOn with
  | _ n ih =>
    intro cs d h
    obtain ⟨ds, m, rfl, rfl, hl, hdl, hf⟩ := rd_struct (l := [(3, 0, 1), (9, 1, 1), (3, 2, 1), (45, 3, 1)]) (by kernel_rfl) h
    have hz : Tryz.prog.cellsOf 47 = 4 := by kernel_rfl
    rw [hz] at hl
    obtain ⟨_, f0⟩ := hf 0 3 0 1 rfl
    obtain ⟨k, r0⟩ := rd_int f0
    obtain ⟨_, f1⟩ := hf 1 9 1 1 rfl
    obtain ⟨s, r1⟩ := rd_str f1
    obtain ⟨_, f2⟩ := hf 2 3 2 1 rfl
    obtain ⟨n, r2⟩ := rd_int f2
    obtain ⟨hi3, f3⟩ := hf 3 45 3 1 rfl
    obtain ⟨ks, r3, o3, z3, q3⟩ := rd_rowsS Ty.cells Ty.Ok (fun t => (allT t).length) (sz := 4) u_tys (by kernel_rfl) (by decide) Ty.cells_len (fun m' cs d hm h => ih m' (by omega) cs d h) f3
    refine ⟨.mk k s n ks, ?_, .mk k s n ks o3 q3, ?_⟩
    rw [Ty.cells_eq]
    exact AllR.step 0 1 r0 (AllR.step 1 1 r1 (AllR.step 2 1 r2 (AllR.step 3 1 r3 (AllR.fin hl))))
    have hbm := bulk_mem ds 3 hi3
    rw [allT, List.length_cons, allL_len]
    simp only [Rows.uptoBulk]
    omega
theorem rd_ty (n : Nat) (cs : List Value) (d : DataW H) (h : rd enc Tryz.prog w held n 47 cs d) : ∃ v : Ty, AllR w v.cells cs ∧ v.Ok := by
  obtain ⟨v, h1, h2, _⟩ := rd_tyS n cs d h
  exact ⟨v, h1, h2⟩
theorem rd_tyB (n : Nat) (cs : List Value) (d : DataW H) (h : rd enc Tryz.prog w held n 47 cs d) : ∃ v : Ty, AllR w v.cells cs ∧ v.Ok ∧ (allT v).length ≤ 1048576 := by
  obtain ⟨v, h1, h2, h3⟩ := rd_tyS n cs d h
  exact ⟨v, h1, h2, Nat.le_trans h3 h.2⟩
theorem rd_pt : ∀ (n : Nat) (cs : List Value) (d : DataW H), rd enc Tryz.prog w held n 178 cs d → ∃ v : Pt, AllR w v.cells cs ∧ v.Ok := by
  intro n
  induction n using Nat.strongRecOn with
  | _ n ih =>
    intro cs d h
    obtain ⟨ds, m, rfl, rfl, hl, hdl, hf⟩ := rd_struct (l := [(3, 0, 1), (9, 1, 1), (2, 2, 1), (176, 3, 1), (3, 4, 1)]) (by kernel_rfl) h
    have hz : Tryz.prog.cellsOf 178 = 5 := by kernel_rfl
    rw [hz] at hl
    obtain ⟨_, f0⟩ := hf 0 3 0 1 rfl
    obtain ⟨k, r0⟩ := rd_int f0
    obtain ⟨_, f1⟩ := hf 1 9 1 1 rfl
    obtain ⟨s, r1⟩ := rd_str f1
    obtain ⟨_, f2⟩ := hf 2 2 2 1 rfl
    obtain ⟨n, r2⟩ := rd_int64 f2
    obtain ⟨_, f3⟩ := hf 3 176 3 1 rfl
    obtain ⟨ks, r3, o3, q3⟩ := rd_rows Pt.cells Pt.Ok (sz := 5) u_pts (by kernel_rfl) (by decide) Pt.cells_len (fun m' cs d hm h => ih m' (by omega) cs d h) f3
    obtain ⟨_, f4⟩ := hf 4 3 4 1 rfl
    obtain ⟨a, r4⟩ := rd_int f4
    refine ⟨.mk k s n ks a, ?_, .mk k s n ks a o3 q3⟩
    rw [Pt.cells_eq]
    exact AllR.step 0 1 r0 (AllR.step 1 1 r1 (AllR.step 2 1 r2 (AllR.step 3 1 r3 (AllR.step 4 1 r4 (AllR.fin hl)))))
theorem rd_al0 (n : Nat) (ih : ∀ m < n, ∀ (cs : List Value) (d : DataW H), rd enc Tryz.prog w held m 87 cs d → ∃ v : Ex, AllR w v.cells cs ∧ v.Ok) (cs : List Value) (d : DataW H) (h : rd enc Tryz.prog w held n 180 cs d) : ∃ v : Al, AllR w v.cells cs ∧ v.Ok := by
  obtain ⟨ds, m, rfl, rfl, hl, hdl, hf⟩ := rd_struct (l := [(178, 0, 5), (87, 5, 11)]) (by kernel_rfl) h
  have hz : Tryz.prog.cellsOf 180 = 16 := by kernel_rfl
  rw [hz] at hl
  obtain ⟨_, f0⟩ := hf 0 178 0 5 rfl
  obtain ⟨p, r0, q0⟩ := rd_pt _ _ _ f0
  obtain ⟨_, f1⟩ := hf 1 87 5 11 rfl
  obtain ⟨e, r1, q1⟩ := ih m (by omega) _ _ f1
  rw [Pt.cells_eq] at r0
  rw [Ex.cells_eq] at r1
  refine ⟨.mk p e, ?_, by rw [Al.Ok]; exact ⟨q0, q1⟩⟩
  rw [Al.cells_eq]
  exact AllR.step 0 5 r0 (AllR.step 5 11 r1 (AllR.fin hl))
theorem rd_bd0 (n : Nat) (ih : ∀ m < n, ∀ (cs : List Value) (d : DataW H), rd enc Tryz.prog w held m 87 cs d → ∃ v : Ex, AllR w v.cells cs ∧ v.Ok) (cs : List Value) (d : DataW H) (h : rd enc Tryz.prog w held n 89 cs d) : ∃ v : Bd, AllR w v.cells cs ∧ v.Ok := by
  obtain ⟨ds, m, rfl, rfl, hl, hdl, hf⟩ := rd_struct (l := [(9, 0, 1), (87, 1, 11), (3, 12, 1)]) (by kernel_rfl) h
  have hz : Tryz.prog.cellsOf 89 = 13 := by kernel_rfl
  rw [hz] at hl
  obtain ⟨_, f0⟩ := hf 0 9 0 1 rfl
  obtain ⟨s, r0⟩ := rd_str f0
  obtain ⟨_, f1⟩ := hf 1 87 1 11 rfl
  obtain ⟨e, r1, q1⟩ := ih m (by omega) _ _ f1
  obtain ⟨_, f2⟩ := hf 2 3 12 1 rfl
  obtain ⟨a, r2⟩ := rd_int f2
  rw [Ex.cells_eq] at r1
  refine ⟨.mk s e a, ?_, by rw [Bd.Ok]; exact q1⟩
  rw [Bd.cells_eq]
  exact AllR.step 0 1 r0 (AllR.step 1 11 r1 (AllR.step 12 1 r2 (AllR.fin hl)))
theorem rd_ex : ∀ (n : Nat) (cs : List Value) (d : DataW H), rd enc Tryz.prog w held n 87 cs d → ∃ v : Ex, AllR w v.cells cs ∧ v.Ok := by
  intro n
  induction n using Nat.strongRecOn with
  | _ n ih =>
    intro cs d h
    obtain ⟨ds, m, rfl, rfl, hl, hdl, hf⟩ := rd_struct (l := [(3, 0, 1), (9, 1, 1), (2, 2, 1), (47, 3, 4), (84, 7, 1), (85, 8, 1), (26, 9, 1), (3, 10, 1)]) (by kernel_rfl) h
    have hz : Tryz.prog.cellsOf 87 = 11 := by kernel_rfl
    rw [hz] at hl
    obtain ⟨_, f0⟩ := hf 0 3 0 1 rfl
    obtain ⟨k, r0⟩ := rd_int f0
    obtain ⟨_, f1⟩ := hf 1 9 1 1 rfl
    obtain ⟨s, r1⟩ := rd_str f1
    obtain ⟨_, f2⟩ := hf 2 2 2 1 rfl
    obtain ⟨n, r2⟩ := rd_int64 f2
    obtain ⟨_, f3⟩ := hf 3 47 3 4 rfl
    obtain ⟨t, r3, q3⟩ := rd_ty _ _ _ f3
    obtain ⟨_, f4⟩ := hf 4 84 7 1 rfl
    obtain ⟨ks, r4, o4, q4⟩ := rd_rows Ex.cells Ex.Ok (sz := 11) u_exs (by kernel_rfl) (by decide) Ex.cells_len (fun m' cs d hm h => ih m' (by omega) cs d h) f4
    obtain ⟨_, f5⟩ := hf 5 85 8 1 rfl
    obtain ⟨xs, r5, o5, q5⟩ := rd_rows Al.cells Al.Ok (sz := 16) u_als (by kernel_rfl) (by decide) Al.cells_len (fun m' cs d hm h => rd_al0 m' (fun m2 h2 => ih m2 (by omega)) cs d h) f5
    obtain ⟨_, f6⟩ := hf 6 26 9 1 rfl
    obtain ⟨bs, r6, o6, q6⟩ := rd_rows Bd.cells Bd.Ok (sz := 13) u_bds (by kernel_rfl) (by decide) Bd.cells_len (fun m' cs d hm h => rd_bd0 m' (fun m2 h2 => ih m2 (by omega)) cs d h) f6
    obtain ⟨_, f7⟩ := hf 7 3 10 1 rfl
    obtain ⟨a, r7⟩ := rd_int f7
    rw [Ty.cells_eq] at r3
    refine ⟨.mk k s n t ks xs bs a, ?_, ?_⟩
    · rw [Ex.cells_eq]
      exact AllR.step 0 1 r0 (AllR.step 1 1 r1 (AllR.step 2 1 r2 (AllR.step 3 4 r3 (AllR.step 7 1 r4 (AllR.step 8 1 r5 (AllR.step 9 1 r6 (AllR.step 10 1 r7 (AllR.fin hl))))))))
    · rw [Ex.Ok]
      exact ⟨q3, ⟨o4, (Ex.OkL_iff ks).2 q4⟩, ⟨o5, (Al.OkL_iff xs).2 q5⟩, ⟨o6, (Bd.OkL_iff bs).2 q6⟩⟩
theorem rd_bd (n : Nat) (cs : List Value) (d : DataW H) (h : rd enc Tryz.prog w held n 89 cs d) : ∃ v : Bd, AllR w v.cells cs ∧ v.Ok := rd_bd0 n (fun m _ => rd_ex m) cs d h
theorem rd_al (n : Nat) (cs : List Value) (d : DataW H) (h : rd enc Tryz.prog w held n 180 cs d) : ∃ v : Al, AllR w v.cells cs ∧ v.Ok := rd_al0 n (fun m _ => rd_ex m) cs d h
theorem rd_cn (n : Nat) (cs : List Value) (d : DataW H) (h : rd enc Tryz.prog w held n 109 cs d) : ∃ v : Cn, AllR w v.cells cs ∧ v.Ok := by
  obtain ⟨ds, m, rfl, rfl, hl, hdl, hf⟩ := rd_struct (l := [(9, 0, 1), (45, 1, 1), (3, 2, 1)]) (by kernel_rfl) h
  have hz : Tryz.prog.cellsOf 109 = 3 := by kernel_rfl
  rw [hz] at hl
  obtain ⟨_, f0⟩ := hf 0 9 0 1 rfl
  obtain ⟨s, r0⟩ := rd_str f0
  obtain ⟨_, f1⟩ := hf 1 45 1 1 rfl
  obtain ⟨l, r1, o1, q1⟩ := rd_rows Ty.cells Ty.Ok (sz := 4) u_tys (by kernel_rfl) (by decide) Ty.cells_len (fun m' cs d _ h => rd_ty m' cs d h) f1
  obtain ⟨_, f2⟩ := hf 2 3 2 1 rfl
  obtain ⟨a, r2⟩ := rd_int f2
  refine ⟨⟨s, l, a⟩, ?_, ⟨o1, q1⟩⟩
  exact AllR.step 0 1 r0 (AllR.step 1 1 r1 (AllR.step 2 1 r2 (AllR.fin hl)))
theorem rd_dt (n : Nat) (cs : List Value) (d : DataW H) (h : rd enc Tryz.prog w held n 73 cs d) : ∃ v : Dt, AllR w v.cells cs ∧ v.Ok := by
  obtain ⟨ds, m, rfl, rfl, hl, hdl, hf⟩ := rd_struct (l := [(9, 0, 1), (52, 1, 1), (71, 2, 1), (52, 3, 1), (3, 4, 1)]) (by kernel_rfl) h
  have hz : Tryz.prog.cellsOf 73 = 5 := by kernel_rfl
  rw [hz] at hl
  obtain ⟨_, f0⟩ := hf 0 9 0 1 rfl
  obtain ⟨s, r0⟩ := rd_str f0
  obtain ⟨_, f1⟩ := hf 1 52 1 1 rfl
  obtain ⟨l1, r1, o1⟩ := rd_strs f1
  obtain ⟨_, f2⟩ := hf 2 71 2 1 rfl
  obtain ⟨l2, r2, o2, q2⟩ := rd_rows Cn.cells Cn.Ok (sz := 3) u_cns (by kernel_rfl) (by decide) Cn.cells_len (fun m' cs d _ h => rd_cn m' cs d h) f2
  obtain ⟨_, f3⟩ := hf 3 52 3 1 rfl
  obtain ⟨l3, r3, o3⟩ := rd_strs f3
  obtain ⟨_, f4⟩ := hf 4 3 4 1 rfl
  obtain ⟨a, r4⟩ := rd_int f4
  refine ⟨⟨s, l1, l2, l3, a⟩, ?_, ⟨o1, ⟨o2, q2⟩, o3⟩⟩
  exact AllR.step 0 1 r0 (AllR.step 1 1 r1 (AllR.step 2 1 r2 (AllR.step 3 1 r3 (AllR.step 4 1 r4 (AllR.fin hl)))))
theorem rd_md (n : Nat) (cs : List Value) (d : DataW H) (h : rd enc Tryz.prog w held n 119 cs d) : ∃ v : Md, AllR w v.cells cs ∧ v.Ok := by
  obtain ⟨ds, m, rfl, rfl, hl, hdl, hf⟩ := rd_struct (l := [(9, 0, 1), (47, 1, 4), (3, 5, 1)]) (by kernel_rfl) h
  have hz : Tryz.prog.cellsOf 119 = 6 := by kernel_rfl
  rw [hz] at hl
  obtain ⟨_, f0⟩ := hf 0 9 0 1 rfl
  obtain ⟨s, r0⟩ := rd_str f0
  obtain ⟨_, f1⟩ := hf 1 47 1 4 rfl
  obtain ⟨t, r1, q1⟩ := rd_tyB _ _ _ f1
  obtain ⟨_, f2⟩ := hf 2 3 5 1 rfl
  obtain ⟨a, r2⟩ := rd_int f2
  rw [Ty.cells_eq] at r1
  refine ⟨⟨s, t, a⟩, ?_, q1⟩
  exact AllR.step 0 1 r0 (AllR.step 1 4 r1 (AllR.step 5 1 r2 (AllR.fin hl)))
theorem rd_cl (n : Nat) (cs : List Value) (d : DataW H) (h : rd enc Tryz.prog w held n 77 cs d) : ∃ v : Cl, AllR w v.cells cs ∧ v.Ok := by
  obtain ⟨ds, m, rfl, rfl, hl, hdl, hf⟩ := rd_struct (l := [(9, 0, 1), (9, 1, 1), (52, 2, 1), (75, 3, 1), (26, 4, 1), (3, 5, 1)]) (by kernel_rfl) h
  have hz : Tryz.prog.cellsOf 77 = 6 := by kernel_rfl
  rw [hz] at hl
  obtain ⟨_, f0⟩ := hf 0 9 0 1 rfl
  obtain ⟨s, r0⟩ := rd_str f0
  obtain ⟨_, f1⟩ := hf 1 9 1 1 rfl
  obtain ⟨v, r1⟩ := rd_str f1
  obtain ⟨_, f2⟩ := hf 2 52 2 1 rfl
  obtain ⟨l1, r2, o2⟩ := rd_strs f2
  obtain ⟨_, f3⟩ := hf 3 75 3 1 rfl
  obtain ⟨l2, r3, o3, q3⟩ := rd_rows Md.cells Md.Ok (sz := 6) u_mds (by kernel_rfl) (by decide) Md.cells_len (fun m' cs d _ h => rd_md m' cs d h) f3
  obtain ⟨_, f4⟩ := hf 4 26 4 1 rfl
  obtain ⟨l3, r4, o4, q4⟩ := rd_rows Bd.cells Bd.Ok (sz := 13) u_bds (by kernel_rfl) (by decide) Bd.cells_len (fun m' cs d _ h => rd_bd m' cs d h) f4
  obtain ⟨_, f5⟩ := hf 5 3 5 1 rfl
  obtain ⟨a, r5⟩ := rd_int f5
  refine ⟨⟨s, v, l1, l2, l3, a⟩, ?_, ⟨o2, ⟨o3, q3⟩, ⟨o4, q4⟩⟩⟩
  exact AllR.step 0 1 r0 (AllR.step 1 1 r1 (AllR.step 2 1 r2 (AllR.step 3 1 r3 (AllR.step 4 1 r4 (AllR.step 5 1 r5 (AllR.fin hl))))))
theorem rd_pd (n : Nat) (cs : List Value) (d : DataW H) (h : rd enc Tryz.prog w held n 132 cs d) : ∃ v : Pd, AllR w v.cells cs ∧ v.Ok := by
  obtain ⟨ds, m, rfl, rfl, hl, hdl, hf⟩ := rd_struct (l := [(9, 0, 1), (47, 1, 4)]) (by kernel_rfl) h
  have hz : Tryz.prog.cellsOf 132 = 5 := by kernel_rfl
  rw [hz] at hl
  obtain ⟨_, f0⟩ := hf 0 9 0 1 rfl
  obtain ⟨s, r0⟩ := rd_str f0
  obtain ⟨_, f1⟩ := hf 1 47 1 4 rfl
  obtain ⟨t, r1, q1⟩ := rd_ty _ _ _ f1
  rw [Ty.cells_eq] at r1
  refine ⟨⟨s, t⟩, ?_, q1⟩
  exact AllR.step 0 1 r0 (AllR.step 1 4 r1 (AllR.fin hl))
theorem rd_it (n : Nat) (cs : List Value) (d : DataW H) (h : rd enc Tryz.prog w held n 81 cs d) : ∃ v : It, AllR w v.cells cs ∧ v.Ok := by
  obtain ⟨ds, m, rfl, rfl, hl, hdl, hf⟩ := rd_struct (l := [(9, 0, 1), (47, 1, 4), (79, 5, 1), (26, 6, 1), (3, 7, 1)]) (by kernel_rfl) h
  have hz : Tryz.prog.cellsOf 81 = 8 := by kernel_rfl
  rw [hz] at hl
  obtain ⟨_, f0⟩ := hf 0 9 0 1 rfl
  obtain ⟨s, r0⟩ := rd_str f0
  obtain ⟨_, f1⟩ := hf 1 47 1 4 rfl
  obtain ⟨t, r1, q1⟩ := rd_ty _ _ _ f1
  obtain ⟨_, f2⟩ := hf 2 79 5 1 rfl
  obtain ⟨l1, r2, o2, q2⟩ := rd_rows Pd.cells Pd.Ok (sz := 5) u_pds (by kernel_rfl) (by decide) Pd.cells_len (fun m' cs d _ h => rd_pd m' cs d h) f2
  obtain ⟨_, f3⟩ := hf 3 26 6 1 rfl
  obtain ⟨l2, r3, o3, q3⟩ := rd_rows Bd.cells Bd.Ok (sz := 13) u_bds (by kernel_rfl) (by decide) Bd.cells_len (fun m' cs d _ h => rd_bd m' cs d h) f3
  obtain ⟨_, f4⟩ := hf 4 3 7 1 rfl
  obtain ⟨a, r4⟩ := rd_int f4
  rw [Ty.cells_eq] at r1
  refine ⟨⟨s, t, l1, l2, a⟩, ?_, ⟨q1, ⟨o2, q2⟩, ⟨o3, q3⟩⟩⟩
  exact AllR.step 0 1 r0 (AllR.step 1 4 r1 (AllR.step 5 1 r2 (AllR.step 6 1 r3 (AllR.step 7 1 r4 (AllR.fin hl)))))
def Pg.cells (p : Pg) : List PV := [dts p.datas, cls p.classes, its p.insts, bds p.binds]
theorem rd_pg (n : Nat) (cs : List Value) (d : DataW H) (h : rd enc Tryz.prog w held n 28 cs d) : ∃ v : Pg, AllR w v.cells cs ∧ v.Ok := by
  obtain ⟨ds, m, rfl, rfl, hl, hdl, hf⟩ := rd_struct (l := [(23, 0, 1), (24, 1, 1), (25, 2, 1), (26, 3, 1)]) (by kernel_rfl) h
  have hz : Tryz.prog.cellsOf 28 = 4 := by kernel_rfl
  rw [hz] at hl
  obtain ⟨_, f0⟩ := hf 0 23 0 1 rfl
  obtain ⟨ds_, r0, o0, q0⟩ := rd_rows Dt.cells Dt.Ok (sz := 5) u_dts (by kernel_rfl) (by decide) Dt.cells_len (fun m' cs d _ h => rd_dt m' cs d h) f0
  obtain ⟨_, f1⟩ := hf 1 24 1 1 rfl
  obtain ⟨cl, r1, o1, q1⟩ := rd_rows Cl.cells Cl.Ok (sz := 6) u_cls (by kernel_rfl) (by decide) Cl.cells_len (fun m' cs d _ h => rd_cl m' cs d h) f1
  obtain ⟨_, f2⟩ := hf 2 25 2 1 rfl
  obtain ⟨il, r2, o2, q2⟩ := rd_rows It.cells It.Ok (sz := 8) u_its (by kernel_rfl) (by decide) It.cells_len (fun m' cs d _ h => rd_it m' cs d h) f2
  obtain ⟨_, f3⟩ := hf 3 26 3 1 rfl
  obtain ⟨bl, r3, o3, q3⟩ := rd_rows Bd.cells Bd.Ok (sz := 13) u_bds (by kernel_rfl) (by decide) Bd.cells_len (fun m' cs d _ h => rd_bd m' cs d h) f3
  refine ⟨⟨⟨ds_, cl, il⟩, bl⟩, ?_, ⟨o0, q0, o1, q1, o2, q2, o3, q3⟩⟩
  exact AllR.step 0 1 r0 (AllR.step 1 1 r1 (AllR.step 2 1 r2 (AllR.step 3 1 r3 (AllR.fin hl))))
end
end Go.Proofs.YtjpjcjnacnlhdaaGreat
