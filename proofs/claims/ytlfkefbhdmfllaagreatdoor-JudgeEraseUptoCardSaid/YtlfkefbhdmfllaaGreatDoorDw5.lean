/- From what the arguments read as to data, with a bound on the bulk. Printed by dw5.py. -/
import Derived.Test.YtlfkefbhdmfllaaGreatDoorRows
import Derived.Test.YtlfkefbhdmfllaaGreatDoorDa3
import Derived.ChangeArms
namespace Go.Proofs.YtlfkefbhdmfllaaGreatDoor
open Go.RowKit
set_option linter.unusedSimpArgs false
set_option linter.unusedVariables false

/-- All that the world holds. -/
def Kw (w : World) : Kn := ⟨fun g o => w.cell? ⟨g, o, none⟩, fun _ => 0, fun _ => 0, fun _ => none, fun _ => .any⟩
theorem WR.world (w : World) : WR (Kw w) [] w := by
  refine ⟨fun _ _ => rfl, (fun i hi => by simp at hi), (fun i g h => by cases h), (fun i ty cells h => by simp at h), (fun i ks vs h => by simp at h), (fun i ty sz len h => by simp at h), (fun i j x y g h => by simp at h), (fun i ty cells g h => by simp at h), fun g o v h => h⟩
def AllR (w : World) (ps : List PV) (cs : List Value) : Prop := ps.length = cs.length ∧ ∀ i (h : i < ps.length) (h' : i < cs.length), PR (Kw w).R (Kw w).M ps[i] cs[i]
section
variable {H : Type} {enc : TypeId × Value → H} {P : Program} {w : World} {held : Bool}
abbrev rd (enc : TypeId × Value → H) (P : Program) (w : World) (held : Bool) (n : Nat) (t : TypeId) (cs : List Value) (d : DataW H) : Prop := (∃ q, DataW.trod enc P w 0 (fun _ => true) held n t cs = some (d, q)) ∧ Rows.uptoBulk d ≤ 1048576
theorem bulkAll_sum {α : Type} (size : α → Nat) : ∀ (l : List α) (ds : List (DataW H)), l.length = ds.length → (∀ i (h : i < l.length) (h' : i < ds.length), size l[i] ≤ Rows.uptoBulk ds[i]) → (l.map size).sum ≤ Rows.uptoBulkAll ds
  | [], [], _, _ => by simp [Rows.uptoBulkAll]
  | a :: l, d :: ds, hl, h => by
    have h0 := h 0 (by simp) (by simp)
    have := bulkAll_sum size l ds (by simpa using hl) (fun i hi hi' => by
      have := h (i + 1) (by simpa using hi) (by simpa using hi')
      simpa using this)
    simp only [List.map_cons, List.sum_cons, Rows.uptoBulkAll]
    simp only [List.getElem_cons_zero] at h0
    omega
  | [], _ :: _, hl, _ => by simp at hl
  | _ :: _, [], hl, _ => by simp at hl
theorem bulk_mem : ∀ (ds : List (DataW H)) (i : Nat) (h : i < ds.length), Rows.uptoBulk ds[i] ≤ Rows.uptoBulkAll ds
  | [], _, h => by simp at h
  | d :: ds, 0, _ => by simp only [List.getElem_cons_zero, Rows.uptoBulkAll]; omega
  | d :: ds, i + 1, h => by
    have := bulk_mem ds i (by simpa using h)
    simp only [List.getElem_cons_succ, Rows.uptoBulkAll]; omega
/-- A slice. -/
theorem rd_sliceS {α : Type} (cells : α → List PV) (Q : α → Prop) (size : α → Nat) {t e : TypeId} {sz n : Nat} {cs : List Value} {d : DataW H} (ht : P.underlying t = some (.slice e)) (hsz : P.cellsOf e = sz) (hpos : 0 < sz) (hc : ∀ x, (cells x).length = sz)
    (he : ∀ m cs d, m < n → rd enc P w held m e cs d → ∃ x, AllR w (cells x) cs ∧ Q x ∧ size x ≤ Rows.uptoBulk d) (h : rd enc P w held n t cs d) :
    ∃ (l : List α) (c : Value), cs = [c] ∧ PR (Kw w).R (Kw w).M (.rows (l.map cells)) c ∧ l.length ≤ maxN ∧ (l.map size).sum + 1 ≤ Rows.uptoBulk d ∧ ∀ x ∈ l, Q x := by
  obtain ⟨⟨q, h⟩, hbk⟩ := h
  rcases DataW.trod_slice ht h with ⟨rfl, hx⟩ | ⟨a, len, cap, elems, rest, m, rfl, rfl, hx, _, hl, hcap, hel, hat, _, _⟩
  · cases hx
    exact ⟨[], _, rfl, PR.nilRow, Nat.zero_le _, by simp [Rows.uptoBulk], fun x hx => by cases hx⟩
  · cases hx
    have hbk2 := hbk
    simp only [Rows.uptoBulk] at hbk2
    have key : ∀ i : Fin len, ∃ x : α, ∃ us : List Value, w.cells? 0 (a.add (i * sz)) sz = some us ∧ AllR w (cells x) us ∧ Q x ∧ ∃ (hi : i < elems.length), size x ≤ Rows.uptoBulk elems[i].1 := by
      intro i
      have := hat i i.2
      rw [hsz, List.getElem?_eq_getElem (by rw [hel]; exact i.2)] at this
      simp only [Option.bind_eq_some_iff] at this
      obtain ⟨us, h1, h2⟩ := this
      have hie : (i : Nat) < elems.length := by rw [hel]; exact i.2
      have hbm := bulk_mem (elems.map (·.1)) i (by simpa using hie)
      simp only [List.getElem_map] at hbm
      obtain ⟨x, h3, h4, h5⟩ := he m us _ (by omega) ⟨⟨_, h2⟩, Nat.le_trans hbm (by omega)⟩
      exact ⟨x, us, h1, h3, h4, hie, h5⟩
    let g : Fin len → α := fun i => (key i).choose
    have hg : ∀ i : Fin len, ∃ us : List Value, w.cells? 0 (a.add (i * sz)) sz = some us ∧ AllR w (cells (g i)) us ∧ Q (g i) ∧ ∃ (hi : i < elems.length), size (g i) ≤ Rows.uptoBulk elems[i].1 := fun i => (key i).choose_spec
    refine ⟨List.ofFn g, _, rfl, ?_, ?_, ?_, ?_⟩
    · have hspot : ∀ i : Nat, i < len → ∀ j, j < sz → (a.add (i * sz)).add j = ⟨a.block, a.off + i * sz + j, none⟩ := by
        intro i hi j hj
        have hsp : a.spot = none := by
          obtain ⟨us, h1, _⟩ := hg ⟨0, by omega⟩
          obtain ⟨_, hlen, hcell⟩ := World.cells?_some h1
          have := hcell 0 hpos
          have hlt : 0 < us.length := by omega
          rw [List.getElem?_eq_getElem hlt] at this
          simp only [Nat.zero_mul, Addr.add, if_true, World.cell?] at this
          split at this
          · split at this
            · cases this
            · rename_i hs
              cases hsp : a.spot with
              | none => rfl
              | some x => rw [hsp] at hs; simp at hs
          · cases this
        obtain ⟨b, o, sp⟩ := a
        simp only at hsp
        subst hsp
        unfold Addr.add
        by_cases h1 : i * sz = 0
        · by_cases h2 : j = 0
          · simp [h1, h2]
          · simp [h1, h2]
        · by_cases h2 : j = 0
          · simp [h1, h2]
          · simp [h1, h2]
      have hcs : ∀ i : Nat, ∀ hi : i < len, ∃ us : List Value, us.length = sz ∧ AllR w (cells (g ⟨i, hi⟩)) us ∧ ∀ j, j < sz → w.cell? ⟨a.block, a.off + i * sz + j, none⟩ = us[j]? := by
        intro i hi
        obtain ⟨us, h1, h2, _⟩ := hg ⟨i, hi⟩
        obtain ⟨_, hlen, hcell⟩ := World.cells?_some h1
        exact ⟨us, hlen, h2, fun j hj => by rw [← hspot i hi j hj]; exact hcell j hj⟩
      have hlen : (List.ofFn g).length = len := by simp
      have := PR.rows (R := (Kw w).R) (M := (Kw w).M) ((List.ofFn g).map cells) (some a) cap a.block a.off sz (fun i j => if hi : i < len then (hcs i hi).choose.getD j (.bool false) else .bool false)
        (fun hne => by
          have hl0 : 0 < len := by
            cases len with
            | zero => simp at hne
            | succ _ => omega
          have := hspot 0 hl0 0 hpos
          simp [Addr.add] at this
          rw [this]) (by simpa using hl) (fun i hi => by simp [hc]) ?_ ?_
      · simpa using this
      · intro i hi j hj
        have hi' : i < len := by simpa using hi
        simp only [hi', dif_pos]
        obtain ⟨h1, h2, h3⟩ := (hcs i hi').choose_spec
        show w.cell? _ = _
        rw [h3 j hj, List.getD_eq_getElem?_getD, List.getElem?_eq_getElem (by omega)]
        rfl
      · intro i hi j hj
        have hi' : i < len := by simpa using hi
        simp only [hi', dif_pos]
        obtain ⟨h1, h2, h3⟩ := (hcs i hi').choose_spec
        have hj' : j < sz := by simpa [hc] using hj
        have := h2.2 j (by rw [hc]; exact hj') (by omega)
        simp only [List.getElem_map, List.getElem_ofFn]
        rw [List.getD_eq_getElem?_getD, List.getElem?_eq_getElem (by omega)]
        exact this
    · simp only [List.length_ofFn]
      have : maxLen = maxN := rfl
      omega
    · have := bulkAll_sum size (List.ofFn g) (elems.map (·.1)) (by simp [hel]) (fun i hi hi' => by
        obtain ⟨us, _, _, _, h4, h5⟩ := hg ⟨i, by simpa using hi⟩
        simpa using h5)
      simp only [Rows.uptoBulk]
      omega
    · intro x hx
      obtain ⟨i, rfl⟩ := List.mem_ofFn.1 hx
      obtain ⟨_, _, _, h4, _⟩ := hg i
      exact h4
def stB (P : Program) (t : TypeId) (l : List (Nat × Nat × Nat)) : Bool := match P.underlying t with
  | some (.struct fs) => decide (fs.toList.map (fun f => (f.type, f.offset, P.cellsOf f.type)) = l)
  | _ => false
theorem rd_struct {t : TypeId} {l : List (Nat × Nat × Nat)} {n : Nat} {cs : List Value} {d : DataW H} (hs : stB P t l = true) (h : rd enc P w held n t cs d) :
    ∃ (ds : List (DataW H)) (m : Nat), n = m + 1 ∧ d = .agg ds ∧ cs.length = P.cellsOf t ∧ ds.length = l.length ∧ ∀ i ty off c, l[i]? = some (ty, off, c) → ∃ (hi : i < ds.length), rd enc P w held m ty ((cs.drop off).take c) ds[i] := by
  unfold stB at hs
  split at hs
  · rename_i fs hfs
    have hs := of_decide_eq_true hs
    obtain ⟨⟨q, h⟩, hbk⟩ := h
    obtain ⟨xs, m, hm, hx, hl, hlen, hf⟩ := DataW.trod_struct hfs h
    cases hx
    have hbk2 := hbk
    simp only [Rows.uptoBulk] at hbk2
    have hll : l.length = fs.size := by rw [← hs]; simp
    refine ⟨_, m, hm, rfl, hl, by simp [hlen, hll], fun i ty off c hi => ?_⟩
    rw [← hs, List.getElem?_map] at hi
    obtain ⟨f, hf1, hf2⟩ := map_some' hi
    simp only [Prod.mk.injEq] at hf2
    obtain ⟨e1, e2, e3⟩ := hf2
    have hlt : i < xs.length := by
      have : i < fs.toList.length := lt_of_get hf1
      rw [hlen]; simpa using this
    have := hf i f (by simpa using hf1)
    rw [List.getElem?_eq_getElem hlt] at this
    have hbm := bulk_mem (xs.map (·.1)) i (by simpa using hlt)
    refine ⟨by simpa using hlt, ⟨xs[i].2, ?_⟩, by omega⟩
    rw [← e1, ← e2, ← e3]
    simpa using this
  · cases hs
end
section
variable {H : Type} {enc : TypeId × Value → H} {w : World} {held : Bool} {n : Nat} {cs : List Value} {d : DataW H}
theorem AllR.nil : AllR w [] [] := ⟨rfl, fun i h => by simp at h⟩
theorem AllR.cons {p : PV} {v : Value} {ps : List PV} {vs : List Value} (h : PR (Kw w).R (Kw w).M p v) (hl : AllR w ps vs) : AllR w (p :: ps) (v :: vs) := by
  refine ⟨by simp [hl.1], fun i hi hi' => ?_⟩
  cases i with
  | zero => exact h
  | succ i => exact hl.2 i (by simpa using hi) (by simpa using hi')
theorem AllR.append {ps qs : List PV} {vs us : List Value} (h : AllR w ps vs) (h' : AllR w qs us) : AllR w (ps ++ qs) (vs ++ us) := by
  refine ⟨by simp [h.1, h'.1], fun i hi hi' => ?_⟩
  by_cases hl : i < ps.length
  · have hl' : i < vs.length := by rw [← h.1]; exact hl
    rw [List.getElem_append_left hl, List.getElem_append_left hl']
    exact h.2 i hl hl'
  · have e := h.1
    rw [List.getElem_append_right (by omega), List.getElem_append_right (by omega)]
    have := h'.2 (i - ps.length) (by rw [List.length_append] at hi; omega) (by rw [List.length_append] at hi'; omega)
    simpa only [e] using this
theorem AllR.step (off c : Nat) {ps qs : List PV} (h : AllR w ps ((cs.drop off).take c)) (ht : AllR w qs (cs.drop (off + c))) : AllR w (ps ++ qs) (cs.drop off) := by
  rw [← List.take_append_drop c (cs.drop off), List.drop_drop]
  exact AllR.append h ht
theorem AllR.fin {k : Nat} (h : cs.length = k) : AllR w [] (cs.drop k) := by
  rw [List.drop_eq_nil_of_le (by omega)]
  exact AllR.nil
theorem u_int : Tryz.prog.underlying 3 = some (.int .i64) := by kernel_rfl
theorem u_int64 : Tryz.prog.underlying 2 = some (.int .i64) := by kernel_rfl
theorem ud_str : Tryz.prog.underlying 9 = some .string := by kernel_rfl
theorem u_strs : Tryz.prog.underlying 65 = some (.slice 9) := by kernel_rfl
theorem rdi {t : TypeId} (ht : Tryz.prog.underlying t = some (.int .i64)) (h : rd enc Tryz.prog w held n t cs d) : ∃ k : Int, AllR w [iv k] cs ∧ 1 ≤ Rows.uptoBulk d := by
  obtain ⟨⟨q, h⟩, _⟩ := h
  obtain ⟨k, rfl, hx, _⟩ := DataW.trod_int ht h
  cases hx
  exact ⟨k, .cons (.lit _ rfl) .nil, by simp [Rows.uptoBulk]⟩
theorem rds (h : rd enc Tryz.prog w held n 9 cs d) : ∃ s : ByteArray, AllR w [sv s] cs ∧ s.size + 1 ≤ Rows.uptoBulk d := by
  obtain ⟨⟨q, h⟩, _⟩ := h
  obtain ⟨s, rfl, hx, _⟩ := DataW.trod_string ud_str h
  cases hx
  exact ⟨s, .cons (.lit _ rfl) .nil, by show s.size + 1 ≤ s.data.toList.length + 1; rw [Array.length_toList]; exact Nat.le_refl _⟩
theorem rdl {α : Type} (cells : α → List PV) (size : α → Nat) {t e : TypeId} {sz : Nat} (ht : Tryz.prog.underlying t = some (.slice e)) (hsz : Tryz.prog.cellsOf e = sz) (hpos : 0 < sz) (hc : ∀ x, (cells x).length = sz)
    (he : ∀ m cs d, m < n → rd enc Tryz.prog w held m e cs d → ∃ x, AllR w (cells x) cs ∧ size x ≤ Rows.uptoBulk d) (h : rd enc Tryz.prog w held n t cs d) :
    ∃ l : List α, AllR w [.rows (l.map cells)] cs ∧ (l.map size).sum + 1 ≤ Rows.uptoBulk d := by
  obtain ⟨l, c, rfl, h1, h2, h3, h4⟩ := rd_sliceS cells (fun _ => True) size ht hsz hpos hc (fun m cs d hm h => by
    obtain ⟨x, h1, h2⟩ := he m cs d hm h
    exact ⟨x, h1, trivial, h2⟩) h
  exact ⟨l, .cons h1 .nil, h3⟩
def szS : List ByteArray → Nat
  | [] => 0
  | s :: l => s.size + 1 + szS l
theorem szS_eq : ∀ l, szS l = (l.map fun s : ByteArray => s.size + 1).sum
  | [] => by rw [szS]; rfl
  | s :: l => by rw [szS, szS_eq l]; rfl
theorem szS_len : ∀ l, l.length ≤ szS l
  | [] => Nat.zero_le _
  | s :: l => by have := szS_len l; rw [szS, List.length_cons]; omega
theorem rdss (h : rd enc Tryz.prog w held n 65 cs d) : ∃ l : List ByteArray, AllR w [strs l] cs ∧ szS l + 1 ≤ Rows.uptoBulk d := by
  obtain ⟨l, h1, h2⟩ := rdl (fun s : ByteArray => [sv s]) (fun s => s.size + 1) (sz := 1) u_strs (by kernel_rfl) (by decide) (fun _ => rfl) (fun m cs d _ h => rds h) h
  exact ⟨l, h1, by rw [szS_eq]; exact h2⟩
theorem bulk_fields2 {ds : List (DataW H)} (hl : ds.length = 2) {a0 a1 : Nat} {i0 : 0 < ds.length} {i1 : 1 < ds.length} (s0 : a0 ≤ Rows.uptoBulk ds[0]) (s1 : a1 ≤ Rows.uptoBulk ds[1]) : a0 + a1 + 1 ≤ Rows.uptoBulk (.agg ds) := by
  match ds, hl with
  | [d0, d1], _ =>
    simp only [Rows.uptoBulk, Rows.uptoBulkAll]
    simp only [List.getElem_cons_zero, List.getElem_cons_succ] at s0 s1
    omega
theorem bulk_fields3 {ds : List (DataW H)} (hl : ds.length = 3) {a0 a1 a2 : Nat} {i0 : 0 < ds.length} {i1 : 1 < ds.length} {i2 : 2 < ds.length} (s0 : a0 ≤ Rows.uptoBulk ds[0]) (s1 : a1 ≤ Rows.uptoBulk ds[1]) (s2 : a2 ≤ Rows.uptoBulk ds[2]) : a0 + a1 + a2 + 1 ≤ Rows.uptoBulk (.agg ds) := by
  match ds, hl with
  | [d0, d1, d2], _ =>
    simp only [Rows.uptoBulk, Rows.uptoBulkAll]
    simp only [List.getElem_cons_zero, List.getElem_cons_succ] at s0 s1 s2
    omega
theorem bulk_fields4 {ds : List (DataW H)} (hl : ds.length = 4) {a0 a1 a2 a3 : Nat} {i0 : 0 < ds.length} {i1 : 1 < ds.length} {i2 : 2 < ds.length} {i3 : 3 < ds.length} (s0 : a0 ≤ Rows.uptoBulk ds[0]) (s1 : a1 ≤ Rows.uptoBulk ds[1]) (s2 : a2 ≤ Rows.uptoBulk ds[2]) (s3 : a3 ≤ Rows.uptoBulk ds[3]) : a0 + a1 + a2 + a3 + 1 ≤ Rows.uptoBulk (.agg ds) := by
  match ds, hl with
  | [d0, d1, d2, d3], _ =>
    simp only [Rows.uptoBulk, Rows.uptoBulkAll]
    simp only [List.getElem_cons_zero, List.getElem_cons_succ] at s0 s1 s2 s3
    omega
theorem bulk_fields5 {ds : List (DataW H)} (hl : ds.length = 5) {a0 a1 a2 a3 a4 : Nat} {i0 : 0 < ds.length} {i1 : 1 < ds.length} {i2 : 2 < ds.length} {i3 : 3 < ds.length} {i4 : 4 < ds.length} (s0 : a0 ≤ Rows.uptoBulk ds[0]) (s1 : a1 ≤ Rows.uptoBulk ds[1]) (s2 : a2 ≤ Rows.uptoBulk ds[2]) (s3 : a3 ≤ Rows.uptoBulk ds[3]) (s4 : a4 ≤ Rows.uptoBulk ds[4]) : a0 + a1 + a2 + a3 + a4 + 1 ≤ Rows.uptoBulk (.agg ds) := by
  match ds, hl with
  | [d0, d1, d2, d3, d4], _ =>
    simp only [Rows.uptoBulk, Rows.uptoBulkAll]
    simp only [List.getElem_cons_zero, List.getElem_cons_succ] at s0 s1 s2 s3 s4
    omega
theorem bulk_fields6 {ds : List (DataW H)} (hl : ds.length = 6) {a0 a1 a2 a3 a4 a5 : Nat} {i0 : 0 < ds.length} {i1 : 1 < ds.length} {i2 : 2 < ds.length} {i3 : 3 < ds.length} {i4 : 4 < ds.length} {i5 : 5 < ds.length} (s0 : a0 ≤ Rows.uptoBulk ds[0]) (s1 : a1 ≤ Rows.uptoBulk ds[1]) (s2 : a2 ≤ Rows.uptoBulk ds[2]) (s3 : a3 ≤ Rows.uptoBulk ds[3]) (s4 : a4 ≤ Rows.uptoBulk ds[4]) (s5 : a5 ≤ Rows.uptoBulk ds[5]) : a0 + a1 + a2 + a3 + a4 + a5 + 1 ≤ Rows.uptoBulk (.agg ds) := by
  match ds, hl with
  | [d0, d1, d2, d3, d4, d5], _ =>
    simp only [Rows.uptoBulk, Rows.uptoBulkAll]
    simp only [List.getElem_cons_zero, List.getElem_cons_succ] at s0 s1 s2 s3 s4 s5
    omega
theorem bulk_fields7 {ds : List (DataW H)} (hl : ds.length = 7) {a0 a1 a2 a3 a4 a5 a6 : Nat} {i0 : 0 < ds.length} {i1 : 1 < ds.length} {i2 : 2 < ds.length} {i3 : 3 < ds.length} {i4 : 4 < ds.length} {i5 : 5 < ds.length} {i6 : 6 < ds.length} (s0 : a0 ≤ Rows.uptoBulk ds[0]) (s1 : a1 ≤ Rows.uptoBulk ds[1]) (s2 : a2 ≤ Rows.uptoBulk ds[2]) (s3 : a3 ≤ Rows.uptoBulk ds[3]) (s4 : a4 ≤ Rows.uptoBulk ds[4]) (s5 : a5 ≤ Rows.uptoBulk ds[5]) (s6 : a6 ≤ Rows.uptoBulk ds[6]) : a0 + a1 + a2 + a3 + a4 + a5 + a6 + 1 ≤ Rows.uptoBulk (.agg ds) := by
  match ds, hl with
  | [d0, d1, d2, d3, d4, d5, d6], _ =>
    simp only [Rows.uptoBulk, Rows.uptoBulkAll]
    simp only [List.getElem_cons_zero, List.getElem_cons_succ] at s0 s1 s2 s3 s4 s5 s6
    omega
theorem bulk_fields8 {ds : List (DataW H)} (hl : ds.length = 8) {a0 a1 a2 a3 a4 a5 a6 a7 : Nat} {i0 : 0 < ds.length} {i1 : 1 < ds.length} {i2 : 2 < ds.length} {i3 : 3 < ds.length} {i4 : 4 < ds.length} {i5 : 5 < ds.length} {i6 : 6 < ds.length} {i7 : 7 < ds.length} (s0 : a0 ≤ Rows.uptoBulk ds[0]) (s1 : a1 ≤ Rows.uptoBulk ds[1]) (s2 : a2 ≤ Rows.uptoBulk ds[2]) (s3 : a3 ≤ Rows.uptoBulk ds[3]) (s4 : a4 ≤ Rows.uptoBulk ds[4]) (s5 : a5 ≤ Rows.uptoBulk ds[5]) (s6 : a6 ≤ Rows.uptoBulk ds[6]) (s7 : a7 ≤ Rows.uptoBulk ds[7]) : a0 + a1 + a2 + a3 + a4 + a5 + a6 + a7 + 1 ≤ Rows.uptoBulk (.agg ds) := by
  match ds, hl with
  | [d0, d1, d2, d3, d4, d5, d6, d7], _ =>
    simp only [Rows.uptoBulk, Rows.uptoBulkAll]
    simp only [List.getElem_cons_zero, List.getElem_cons_succ] at s0 s1 s2 s3 s4 s5 s6 s7
    omega
theorem bulk_fields9 {ds : List (DataW H)} (hl : ds.length = 9) {a0 a1 a2 a3 a4 a5 a6 a7 a8 : Nat} {i0 : 0 < ds.length} {i1 : 1 < ds.length} {i2 : 2 < ds.length} {i3 : 3 < ds.length} {i4 : 4 < ds.length} {i5 : 5 < ds.length} {i6 : 6 < ds.length} {i7 : 7 < ds.length} {i8 : 8 < ds.length} (s0 : a0 ≤ Rows.uptoBulk ds[0]) (s1 : a1 ≤ Rows.uptoBulk ds[1]) (s2 : a2 ≤ Rows.uptoBulk ds[2]) (s3 : a3 ≤ Rows.uptoBulk ds[3]) (s4 : a4 ≤ Rows.uptoBulk ds[4]) (s5 : a5 ≤ Rows.uptoBulk ds[5]) (s6 : a6 ≤ Rows.uptoBulk ds[6]) (s7 : a7 ≤ Rows.uptoBulk ds[7]) (s8 : a8 ≤ Rows.uptoBulk ds[8]) : a0 + a1 + a2 + a3 + a4 + a5 + a6 + a7 + a8 + 1 ≤ Rows.uptoBulk (.agg ds) := by
  match ds, hl with
  | [d0, d1, d2, d3, d4, d5, d6, d7, d8], _ =>
    simp only [Rows.uptoBulk, Rows.uptoBulkAll]
    simp only [List.getElem_cons_zero, List.getElem_cons_succ] at s0 s1 s2 s3 s4 s5 s6 s7 s8
    omega
theorem bulk_fields10 {ds : List (DataW H)} (hl : ds.length = 10) {a0 a1 a2 a3 a4 a5 a6 a7 a8 a9 : Nat} {i0 : 0 < ds.length} {i1 : 1 < ds.length} {i2 : 2 < ds.length} {i3 : 3 < ds.length} {i4 : 4 < ds.length} {i5 : 5 < ds.length} {i6 : 6 < ds.length} {i7 : 7 < ds.length} {i8 : 8 < ds.length} {i9 : 9 < ds.length} (s0 : a0 ≤ Rows.uptoBulk ds[0]) (s1 : a1 ≤ Rows.uptoBulk ds[1]) (s2 : a2 ≤ Rows.uptoBulk ds[2]) (s3 : a3 ≤ Rows.uptoBulk ds[3]) (s4 : a4 ≤ Rows.uptoBulk ds[4]) (s5 : a5 ≤ Rows.uptoBulk ds[5]) (s6 : a6 ≤ Rows.uptoBulk ds[6]) (s7 : a7 ≤ Rows.uptoBulk ds[7]) (s8 : a8 ≤ Rows.uptoBulk ds[8]) (s9 : a9 ≤ Rows.uptoBulk ds[9]) : a0 + a1 + a2 + a3 + a4 + a5 + a6 + a7 + a8 + a9 + 1 ≤ Rows.uptoBulk (.agg ds) := by
  match ds, hl with
  | [d0, d1, d2, d3, d4, d5, d6, d7, d8, d9], _ =>
    simp only [Rows.uptoBulk, Rows.uptoBulkAll]
    simp only [List.getElem_cons_zero, List.getElem_cons_succ] at s0 s1 s2 s3 s4 s5 s6 s7 s8 s9
    omega
end
end Go.Proofs.YtlfkefbhdmfllaaGreatDoor
