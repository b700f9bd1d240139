/- Decisions, values and patterns out of what is read; their sizes. -/
import Derived.Test.YtmgmknpgikgnlaaGreatTb4
namespace Go.Proofs.YtmgmknpgikgnlaaGreat
open Go.RowKit

mutual
def Dc.size : Dc → Nat
  | .mk _ _ p cs es => 1 + p.length + Cs.sizeL cs + Dc.sizeL es
def Cs.size : Cs → Nat
  | .mk _ _ _ d => d.size
def Cs.sizeL : List Cs → Nat
  | [] => 0
  | c :: l => c.size + Cs.sizeL l
def Dc.sizeL : List Dc → Nat
  | [] => 0
  | c :: l => c.size + Dc.sizeL l
end
theorem Cs.sizeL_eq : ∀ l, Cs.sizeL l = (l.map Cs.size).sum
  | [] => by rw [Cs.sizeL]; rfl
  | c :: l => by rw [Cs.sizeL, Cs.sizeL_eq l]; rfl
theorem Dc.sizeL_eq : ∀ l, Dc.sizeL l = (l.map Dc.size).sum
  | [] => by rw [Dc.sizeL]; rfl
  | c :: l => by rw [Dc.sizeL, Dc.sizeL_eq l]; rfl
theorem Dc.size_pos : ∀ t : Dc, 1 ≤ t.size
  | .mk .. => by rw [Dc.size]; omega
theorem Cs.size_pos : ∀ t : Cs, 1 ≤ t.size
  | .mk _ _ _ d => by rw [Cs.size]; exact d.size_pos
theorem Cs.len_le : ∀ l : List Cs, l.length ≤ Cs.sizeL l
  | [] => by simp
  | c :: l => by rw [Cs.sizeL, List.length_cons]; have := c.size_pos; have := Cs.len_le l; omega
theorem Dc.len_le : ∀ l : List Dc, l.length ≤ Dc.sizeL l
  | [] => by simp
  | c :: l => by rw [Dc.sizeL, List.length_cons]; have := c.size_pos; have := Dc.len_le l; omega
mutual
theorem Dc.ok : ∀ t : Dc, t.size ≤ 100000000 → t.Ok
  | .mk k a p cs es, h => by
    rw [Dc.size] at h
    have h1 := Cs.okL cs (by omega)
    have h2 := Dc.okL es (by omega)
    have := Cs.len_le cs
    have := Dc.len_le es
    exact .mk k a p cs es (by omega) (by omega) (by omega) h1 h2
theorem Cs.ok1 : ∀ c : Cs, c.size ≤ 100000000 → ∀ k s n d, c = .mk k s n d → d.Ok
  | .mk k0 s0 n0 d0, h, k, s, n, d, e => by
    cases e
    rw [Cs.size] at h
    exact Dc.ok d0 h
theorem Cs.okL : ∀ l : List Cs, Cs.sizeL l ≤ 100000000 → ∀ k s n d, Cs.mk k s n d ∈ l → d.Ok
  | [], _, k, s, n, d, hd => by cases hd
  | c :: l, h, k, s, n, d, hd => by
    rw [Cs.sizeL] at h
    have h1 := Cs.ok1 c (by omega)
    have h2 := Cs.okL l (by omega)
    rcases List.mem_cons.1 hd with e | hd
    · exact h1 k s n d e.symm
    · exact h2 k s n d hd
theorem Dc.okL : ∀ l : List Dc, Dc.sizeL l ≤ 100000000 → ∀ d ∈ l, d.Ok
  | [], _, d, hd => by cases hd
  | c :: l, h, d, hd => by
    rw [Dc.sizeL] at h
    have h1 := Dc.ok c (by omega)
    have h2 := Dc.okL l (by omega)
    rcases List.mem_cons.1 hd with rfl | hd
    · exact h1
    · exact h2 d hd
end
mutual
theorem Dc.leaves_le : ∀ t : Dc, t.leaves.length ≤ t.size
  | .mk k a p cs es => by
    have h1 := Cs.leavesL_le cs
    have h2 := Dc.leavesL_le es
    rw [Dc.leaves, Dc.size]
    split
    · simp; omega
    · split
      · rw [List.length_append]; omega
      · simp; omega
theorem Cs.leavesC_le : ∀ c : Cs, c.leavesC.length ≤ c.size
  | .mk _ _ _ d => by
    have := Dc.leaves_le d
    rw [Cs.leavesC, Cs.size]; exact this
theorem Cs.leavesL_le : ∀ l : List Cs, (Cs.leavesL l).length ≤ Cs.sizeL l
  | [] => by rw [Cs.leavesL]; simp
  | c :: l => by
    have h1 := Cs.leavesC_le c
    have h2 := Cs.leavesL_le l
    rw [Cs.leavesL, Cs.sizeL, List.length_append]; omega
theorem Dc.leavesL_le : ∀ l : List Dc, (Dc.leavesL l).length ≤ Dc.sizeL l
  | [] => by rw [Dc.leavesL]; simp
  | c :: l => by
    have h1 := Dc.leaves_le c
    have h2 := Dc.leavesL_le l
    rw [Dc.leavesL, Dc.sizeL, List.length_append]; omega
end
mutual
def Pt.size : Pt → Nat
  | .mk _ _ _ ks _ => 1 + Pt.sizeL ks
def Pt.sizeL : List Pt → Nat
  | [] => 0
  | c :: l => c.size + Pt.sizeL l
end
theorem Pt.sizeL_eq : ∀ l, Pt.sizeL l = (l.map Pt.size).sum
  | [] => by rw [Pt.sizeL]; rfl
  | c :: l => by rw [Pt.sizeL, Pt.sizeL_eq l]; rfl
theorem Pt.size_pos : ∀ t : Pt, 1 ≤ t.size
  | .mk .. => by rw [Pt.size]; omega
theorem Pt.len_le : ∀ l : List Pt, l.length ≤ Pt.sizeL l
  | [] => by simp
  | c :: l => by rw [Pt.sizeL, List.length_cons]; have := c.size_pos; have := Pt.len_le l; omega
mutual
theorem Pt.ok : ∀ (p : Pt) (d : Nat), p.size ≤ d → d ≤ 1000000 → p.Ok d
  | .mk k s n ks a, d, h, hd => by
    rw [Pt.size] at h
    have h1 := Pt.okL ks
    have := Pt.len_le ks
    obtain ⟨d, rfl⟩ : ∃ e, d = e + 1 := ⟨d - 1, by omega⟩
    exact .mk d k s n ks a (by omega) (fun c hc => h1 d (by omega) (by omega) c hc)
theorem Pt.okL : ∀ (l : List Pt) (d : Nat), Pt.sizeL l ≤ d → d ≤ 1000000 → ∀ c ∈ l, c.Ok d
  | [], _, _, _, c, hc => by cases hc
  | q :: l, d, h, hd, c, hc => by
    rw [Pt.sizeL] at h
    have h1 := Pt.ok q d (by omega) hd
    have h2 := Pt.okL l d (by omega) hd
    rcases List.mem_cons.1 hc with rfl | hc
    · exact h1
    · exact h2 c hc
end
mutual
theorem Pt.vars_le : ∀ (p : Pt) (path : List Int), (p.vars path).length ≤ p.size ∧ ∀ y ∈ p.vars path, y.2.length ≤ path.length + p.size
  | .mk k s n ks a, path => by
    have h := Pt.varsL_le ks path 0
    rw [Pt.vars, Pt.size]
    constructor
    · rw [List.length_append]
      split <;> simp <;> omega
    · intro y hy
      rcases List.mem_append.1 hy with hy | hy
      · split at hy
        · rw [List.mem_singleton.1 hy]; simp
        · cases hy
      · have := h.2 y hy; omega
theorem Pt.varsL_le : ∀ (l : List Pt) (path : List Int) (i : Nat), (Pt.varsL l path i).length ≤ Pt.sizeL l ∧ ∀ y ∈ Pt.varsL l path i, y.2.length ≤ path.length + 1 + Pt.sizeL l
  | [], path, i => by rw [Pt.varsL]; simp
  | c :: l, path, i => by
    have h1 := Pt.vars_le c (path ++ [(i : Int)])
    have h2 := Pt.varsL_le l path (i + 1)
    rw [Pt.varsL, Pt.sizeL]
    constructor
    · rw [List.length_append]; omega
    · intro y hy
      rcases List.mem_append.1 hy with hy | hy
      · have := h1.2 y hy; simp at this; omega
      · have := h2.2 y hy; omega
end
section
variable {H : Type} {enc : TypeId × Value → H} {w : World} {held : Bool} {n : Nat} {cs : List Value} {d : DataW H}
theorem u3 : Tryz.prog.underlying 3 = some (.int .i64) := by kernel_rfl
theorem u2 : Tryz.prog.underlying 2 = some (.int .i64) := by kernel_rfl
theorem u9 : Tryz.prog.underlying 9 = some .string := by kernel_rfl
theorem u22 : Tryz.prog.underlying 22 = some (.slice 3) := by kernel_rfl
theorem u23 : Tryz.prog.underlying 23 = some (.slice 61) := by kernel_rfl
theorem u24 : Tryz.prog.underlying 24 = some (.slice 26) := by kernel_rfl
theorem u27 : Tryz.prog.underlying 27 = some (.slice 29) := by kernel_rfl
theorem u30 : Tryz.prog.underlying 30 = some (.slice 32) := by kernel_rfl
theorem rd_int3 (h : rd enc Tryz.prog w held n 3 cs d) : ∃ k : Int, cs = [.int .i64 k] ∧ 1 ≤ Rows.uptoBulk d := by
  obtain ⟨q, h⟩ := h
  obtain ⟨k, rfl, hx, _⟩ := DataW.trod_int u3 h
  cases hx
  exact ⟨k, rfl, by simp [Rows.uptoBulk]⟩
theorem rd_int2 (h : rd enc Tryz.prog w held n 2 cs d) : ∃ k : Int, cs = [.int .i64 k] ∧ 1 ≤ Rows.uptoBulk d := by
  obtain ⟨q, h⟩ := h
  obtain ⟨k, rfl, hx, _⟩ := DataW.trod_int u2 h
  cases hx
  exact ⟨k, rfl, by simp [Rows.uptoBulk]⟩
theorem rd_str (h : rd enc Tryz.prog w held n 9 cs d) : ∃ s : ByteArray, cs = [.string s] := by
  obtain ⟨q, h⟩ := h
  obtain ⟨s, rfl, _, _⟩ := DataW.trod_string u9 h
  exact ⟨s, rfl⟩
theorem AllR.nil : AllR w [] [] := ⟨rfl, fun i h => by simp at h⟩
theorem AllR.cons {p : PV} {v : Value} {ps : List PV} {vs : List Value} (h : PR (Kw w).R (Kw w).M p v) (hl : AllR w ps vs) : AllR w (p :: ps) (v :: vs) := by
  refine ⟨by simp [hl.1], fun i hi hi' => ?_⟩
  cases i with
  | zero => exact h
  | succ i => exact hl.2 i (by simpa using hi) (by simpa using hi')
theorem pr_int (k : Int) : PR (Kw w).R (Kw w).M (iv k) (.int .i64 k) := .lit _ rfl
theorem pr_str (s : ByteArray) : PR (Kw w).R (Kw w).M (sv s) (.string s) := .lit _ rfl
theorem rd_ints (h : rd enc Tryz.prog w held n 22 cs d) : ∃ (l : List Int) (c : Value), cs = [c] ∧ PR (Kw w).R (Kw w).M (ints l) c ∧ l.length + 1 ≤ Rows.uptoBulk d := by
  obtain ⟨l, c, h1, h2, h3⟩ := rd_slice (fun n : Int => [iv n]) (fun _ => 1) (sz := 1) u22 (by kernel_rfl) (by decide) (fun _ => rfl) (fun m cs d _ h => by
    obtain ⟨k, rfl, hb⟩ := rd_int3 h
    exact ⟨k, .cons (pr_int k) .nil, hb⟩) h
  have hs : (l.map fun _ => 1).sum = l.length := by
    clear h2 h3
    induction l with
    | nil => rfl
    | cons x l ih => simp only [List.map_cons, List.sum_cons, ih, List.length_cons]; omega
  exact ⟨l, c, h1, h2, by rw [← hs]; exact h3⟩
theorem list4 {α : Type} {l : List α} (h : l.length = 4) : ∃ a b c d, l = [a, b, c, d] := by
  match l, h with
  | [a, b, c, d], _ => exact ⟨a, b, c, d, rfl⟩
theorem list5 {α : Type} {l : List α} (h : l.length = 5) : ∃ a b c d e, l = [a, b, c, d, e] := by
  match l, h with
  | [a, b, c, d, e], _ => exact ⟨a, b, c, d, e, rfl⟩
theorem list8 {α : Type} {l : List α} (h : l.length = 8) : ∃ a b c d e f g i, l = [a, b, c, d, e, f, g, i] := by
  match l, h with
  | [a, b, c, d, e, f, g, i], _ => exact ⟨a, b, c, d, e, f, g, i, rfl⟩
theorem Vl.cells_len (v : Vl) : v.cells.length = 4 := by obtain ⟨k, n, s, ks⟩ := v; rw [Vl.cells_mk]; rfl
theorem Dc.cells_len (v : Dc) : v.cells.length = 5 := by obtain ⟨k, a, p, cs, es⟩ := v; rw [Dc.cells_mk]; rfl
theorem Cs.cells_len (v : Cs) : v.cells.length = 8 := by obtain ⟨k, s, n, d⟩ := v; rw [Cs.cells_mk]; simp [Dc.cells_len]
theorem Pt.cells_len (v : Pt) : v.cells.length = 5 := by obtain ⟨k, s, n, ks, a⟩ := v; rw [Pt.cells_mk]; rfl
theorem rd_val : ∀ (n : Nat) (cs : List Value) (d : DataW H), rd enc Tryz.prog w held n 29 cs d → ∃ v : Vl, AllR w v.cells cs := by
  intro n
  induction n using Nat.strongRecOn with
  | _ n ih =>
    intro cs d h
    obtain ⟨ds, m, rfl, rfl, hl, hdl, hf⟩ := rd_struct (l := [(3, 0, 1), (2, 1, 1), (9, 2, 1), (27, 3, 1)]) (by kernel_rfl) h
    have h4 : Tryz.prog.cellsOf 29 = 4 := by kernel_rfl
    rw [h4] at hl
    obtain ⟨c0, c1, c2, c3, rfl⟩ := list4 hl
    obtain ⟨_, f0⟩ := hf 0 3 0 1 rfl
    obtain ⟨_, f1⟩ := hf 1 2 1 1 rfl
    obtain ⟨_, f2⟩ := hf 2 9 2 1 rfl
    obtain ⟨_, f3⟩ := hf 3 27 3 1 rfl
    obtain ⟨k, e0, _⟩ := rd_int3 f0
    obtain ⟨k2, e1, _⟩ := rd_int2 f1
    obtain ⟨s, e2⟩ := rd_str f2
    obtain ⟨l, c, e3, hp, _⟩ := rd_slice Vl.cells (fun _ => 0) (sz := 4) u27 (by kernel_rfl) (by decide) Vl.cells_len (fun m' cs d hm h => by
      obtain ⟨v, hv⟩ := ih m' (by omega) cs d h
      exact ⟨v, hv, Nat.zero_le _⟩) f3
    simp at e0 e1 e2 e3
    subst e0; subst e1; subst e2; subst e3
    refine ⟨.mk k k2 s l, ?_⟩
    rw [Vl.cells_mk]
    exact .cons (pr_int _) (.cons (pr_int _) (.cons (pr_str _) (.cons hp .nil)))
theorem rd_dec : ∀ (n : Nat) (cs : List Value) (d : DataW H), rd enc Tryz.prog w held n 26 cs d → ∃ v : Dc, AllR w v.cells cs ∧ v.size ≤ Rows.uptoBulk d := by
  intro n
  induction n using Nat.strongRecOn with
  | _ n ih =>
    intro cs d h
    obtain ⟨ds, m, rfl, rfl, hl, hdl, hf⟩ := rd_struct (l := [(3, 0, 1), (3, 1, 1), (22, 2, 1), (23, 3, 1), (24, 4, 1)]) (by kernel_rfl) h
    have h4 : Tryz.prog.cellsOf 26 = 5 := by kernel_rfl
    rw [h4] at hl
    obtain ⟨c0, c1, c2, c3, c4, rfl⟩ := list5 hl
    obtain ⟨d0, d1, d2, d3, d4, rfl⟩ := list5 hdl
    obtain ⟨_, f0⟩ := hf 0 3 0 1 rfl
    obtain ⟨_, f1⟩ := hf 1 3 1 1 rfl
    obtain ⟨_, f2⟩ := hf 2 22 2 1 rfl
    obtain ⟨_, f3⟩ := hf 3 23 3 1 rfl
    obtain ⟨_, f4⟩ := hf 4 24 4 1 rfl
    simp only [List.getElem_cons_zero, List.getElem_cons_succ] at f0 f1 f2 f3 f4
    obtain ⟨k, e0, b0⟩ := rd_int3 f0
    obtain ⟨a, e1, b1⟩ := rd_int3 f1
    obtain ⟨p, c, e2, hp, b2⟩ := rd_ints f2
    obtain ⟨cl, c', e3, hcl, b3⟩ := rd_slice Cs.cells Cs.size (sz := 8) u23 (by kernel_rfl) (by decide) Cs.cells_len (fun m' cs d hm h => by
      obtain ⟨ds, m2, rfl, rfl, hl, hdl, hf⟩ := rd_struct (l := [(3, 0, 1), (9, 1, 1), (2, 2, 1), (26, 3, 5)]) (by kernel_rfl) h
      have h8 : Tryz.prog.cellsOf 61 = 8 := by kernel_rfl
      rw [h8] at hl
      obtain ⟨x0, x1, x2, x3, x4, x5, x6, x7, rfl⟩ := list8 hl
      obtain ⟨y0, y1, y2, y3, rfl⟩ := list4 hdl
      obtain ⟨_, g0⟩ := hf 0 3 0 1 rfl
      obtain ⟨_, g1⟩ := hf 1 9 1 1 rfl
      obtain ⟨_, g2⟩ := hf 2 2 2 1 rfl
      obtain ⟨_, g3⟩ := hf 3 26 3 5 rfl
      simp only [List.getElem_cons_zero, List.getElem_cons_succ] at g0 g1 g2 g3
      obtain ⟨k, e0, _⟩ := rd_int3 g0
      obtain ⟨s, e1⟩ := rd_str g1
      obtain ⟨k2, e2, _⟩ := rd_int2 g2
      obtain ⟨dd, hd, hb⟩ := ih m2 (by omega) _ _ g3
      simp at e0 e1 e2 hd
      subst e0; subst e1; subst e2
      refine ⟨.mk k s k2 dd, ?_, ?_⟩
      · rw [Cs.cells_mk]
        exact .cons (pr_int _) (.cons (pr_str _) (.cons (pr_int _) hd))
      · rw [Cs.size]
        simp only [Rows.uptoBulk, Rows.uptoBulkAll]
        omega) f3
    obtain ⟨el, c'', e4, hel, b4⟩ := rd_slice Dc.cells Dc.size (sz := 5) u24 (by kernel_rfl) (by decide) Dc.cells_len (fun m' cs d hm h => ih m' (by omega) cs d h) f4
    simp at e0 e1 e2 e3 e4
    subst e0; subst e1; subst e2; subst e3; subst e4
    refine ⟨.mk k a p cl el, ?_, ?_⟩
    · rw [Dc.cells_mk]
      exact .cons (pr_int _) (.cons (pr_int _) (.cons hp (.cons hcl (.cons hel .nil))))
    · rw [Dc.size, Cs.sizeL_eq, Dc.sizeL_eq]
      simp only [Rows.uptoBulk, Rows.uptoBulkAll]
      omega
theorem rd_pat : ∀ (n : Nat) (cs : List Value) (d : DataW H), rd enc Tryz.prog w held n 32 cs d → ∃ v : Pt, AllR w v.cells cs ∧ 2 * v.size ≤ Rows.uptoBulk d := by
  intro n
  induction n using Nat.strongRecOn with
  | _ n ih =>
    intro cs d h
    obtain ⟨ds, m, rfl, rfl, hl, hdl, hf⟩ := rd_struct (l := [(3, 0, 1), (9, 1, 1), (2, 2, 1), (30, 3, 1), (3, 4, 1)]) (by kernel_rfl) h
    have h4 : Tryz.prog.cellsOf 32 = 5 := by kernel_rfl
    rw [h4] at hl
    obtain ⟨c0, c1, c2, c3, c4, rfl⟩ := list5 hl
    obtain ⟨d0, d1, d2, d3, d4, rfl⟩ := list5 hdl
    obtain ⟨_, f0⟩ := hf 0 3 0 1 rfl
    obtain ⟨_, f1⟩ := hf 1 9 1 1 rfl
    obtain ⟨_, f2⟩ := hf 2 2 2 1 rfl
    obtain ⟨_, f3⟩ := hf 3 30 3 1 rfl
    obtain ⟨_, f4⟩ := hf 4 3 4 1 rfl
    simp only [List.getElem_cons_zero, List.getElem_cons_succ] at f0 f1 f2 f3 f4
    obtain ⟨k, e0, b0⟩ := rd_int3 f0
    obtain ⟨s, e1⟩ := rd_str f1
    obtain ⟨k2, e2, b2⟩ := rd_int2 f2
    obtain ⟨kl, c, e3, hkl, b3⟩ := rd_slice Pt.cells (fun v => 2 * v.size) (sz := 5) u30 (by kernel_rfl) (by decide) Pt.cells_len (fun m' cs d hm h => ih m' (by omega) cs d h) f3
    obtain ⟨a, e4, b4⟩ := rd_int3 f4
    simp at e0 e1 e2 e3 e4
    subst e0; subst e1; subst e2; subst e3; subst e4
    have hsum : (kl.map fun v => 2 * v.size).sum = 2 * Pt.sizeL kl := by
      rw [Pt.sizeL_eq]
      clear hkl b3 f3
      induction kl with
      | nil => rfl
      | cons x l ih => simp only [List.map_cons, List.sum_cons, ih]; omega
    refine ⟨.mk k s k2 kl a, ?_, ?_⟩
    · rw [Pt.cells_mk]
      exact .cons (pr_int _) (.cons (pr_str _) (.cons (pr_int _) (.cons hkl (.cons (pr_int _) .nil))))
    · rw [Pt.size]
      simp only [Rows.uptoBulk, Rows.uptoBulkAll]
      omega
end
end Go.Proofs.YtmgmknpgikgnlaaGreat
