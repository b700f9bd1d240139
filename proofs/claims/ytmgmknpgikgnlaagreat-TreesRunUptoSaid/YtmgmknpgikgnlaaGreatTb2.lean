/- How great a decision is: some number. The statement's function. -/
import Derived.Test.YtmgmknpgikgnlaaGreatTb1
namespace Go.Proofs.YtmgmknpgikgnlaaGreat
open Go.RowKit

def e5a (i : Nat) (n most : Int) : Env := [(6, .pv (iv i)), (2, .ptr 0 0), (5, .pv (iv n)), (1, .pv (iv most))]
theorem loop5a (k a : Int) (p : List Int) (cs : List Cs) (es : List Dc) (most : Int) (hc : cs.length < 1000000000000) (ih : ∀ k0 s0 n0 d, Cs.mk k0 s0 n0 d ∈ cs → ∀ m : Int, ∃ n : Int, Sem Tryz.prog 5 [dcA d, .pv (iv m)] [] (.pv (iv n)) []) :
    ∀ (m i : Nat) (n : Int), cs.length - i = m → i ≤ cs.length → ∃ n' : Int, LoopS Tryz.prog Tryz.f5 0 1 (e5a i n most) [bxD (.mk k a p cs es)] (.exit 0) [(2, .ptr 0 0), (5, .pv (iv n')), (1, .pv (iv most))] [bxD (.mk k a p cs es)] := by
  intro m
  induction m with
  | zero =>
    intro i n hm hi
    refine ⟨n, LoopS.done (L5b0a _ _ _ _ _ _ _ _ (by simp) (by simp [H5b0a]) ?_) (by simp)⟩
    have hk' : ¬ i < cs.length := by omega
    simp [T5b0a, hk', bxD]
  | succ m ih2 =>
    intro i n hm hi
    have h1 : i < cs.length := by omega
    have hw := wrap_succ (k := i) (by omega)
    by_cases hn : n < most
    · obtain ⟨c, hc1⟩ : ∃ c, cs[i]? = some c := ⟨cs[i], List.getElem?_eq_getElem h1⟩
      obtain ⟨k0, s0, n0, d⟩ := c
      obtain ⟨r, hr⟩ := ih k0 s0 n0 d (List.mem_of_getElem? hc1) (IntKind.i64.wrap (most - n))
      obtain ⟨n', hL⟩ := ih2 (i + 1) (IntKind.i64.wrap (n + r)) (by omega) (by omega)
      obtain ⟨k1, a1, p1, cs1, es1⟩ := d
      simp [dcA] at hr
      refine ⟨n', LoopS.again (L5b0a _ _ _ _ _ _ _ _ (by simp) (by simp [H5b0a]) ?_) hL⟩
      simp [T5b0a, e5a, h1, hn, idx_css hc1, bxD]
      exact ⟨_, hr, by simp [hw]⟩
    · refine ⟨n, LoopS.done (L5b0a _ _ _ _ _ _ _ _ (by simp) (by simp [H5b0a]) ?_) (by simp)⟩
      simp [T5b0a, h1, hn, bxD]
def e5b (i : Nat) (n most : Int) : Env := [(7, .pv (iv i)), (2, .ptr 0 0), (5, .pv (iv n)), (1, .pv (iv most))]
theorem loop5b (k a : Int) (p : List Int) (cs : List Cs) (es : List Dc) (most : Int) (hc : es.length < 1000000000000) (ih : ∀ d ∈ es, ∀ m : Int, ∃ n : Int, Sem Tryz.prog 5 [dcA d, .pv (iv m)] [] (.pv (iv n)) []) :
    ∀ (m i : Nat) (n : Int), es.length - i = m → i ≤ es.length → ∃ n' : Int, LoopS Tryz.prog Tryz.f5 2 1 (e5b i n most) [bxD (.mk k a p cs es)] (.exit 2) [(5, .pv (iv n'))] [bxD (.mk k a p cs es)] := by
  intro m
  induction m with
  | zero =>
    intro i n hm hi
    refine ⟨n, LoopS.done (L5b2a _ _ _ _ _ _ _ _ (by simp) (by simp [H5b2a]) ?_) (by simp)⟩
    have hk' : ¬ i < es.length := by omega
    simp [T5b2a, hk', bxD]
  | succ m ih2 =>
    intro i n hm hi
    have h1 : i < es.length := by omega
    have hw := wrap_succ (k := i) (by omega)
    by_cases hn : n < most
    · obtain ⟨d, hc1⟩ : ∃ c, es[i]? = some c := ⟨es[i], List.getElem?_eq_getElem h1⟩
      obtain ⟨r, hr⟩ := ih d (List.mem_of_getElem? hc1) (IntKind.i64.wrap (most - n))
      obtain ⟨n', hL⟩ := ih2 (i + 1) (IntKind.i64.wrap (n + r)) (by omega) (by omega)
      obtain ⟨k1, a1, p1, cs1, es1⟩ := d
      simp [dcA] at hr
      refine ⟨n', LoopS.again (L5b2a _ _ _ _ _ _ _ _ (by simp) (by simp [H5b2a]) ?_) hL⟩
      simp [T5b2a, e5b, h1, hn, idx_dcs hc1, bxD]
      exact ⟨_, hr, by simp [hw]⟩
    · refine ⟨n, LoopS.done (L5b2a _ _ _ _ _ _ _ _ (by simp) (by simp [H5b2a]) ?_) (by simp)⟩
      simp [T5b2a, h1, hn, bxD]
theorem small5 (t : Dc) (ht : t.Ok) : ∀ m : Int, ∃ n : Int, Sem Tryz.prog 5 [dcA t, .pv (iv m)] [] (.pv (iv n)) [] := by
  induction ht with
  | mk k a p cs es hp hc he h1 h2 ih1 ih2 =>
    intro most
    obtain ⟨n1, l1⟩ := loop5a k a p cs es most hc ih1 _ 0 (IntKind.i64.wrap (1 + p.length)) rfl (Nat.zero_le _)
    obtain ⟨n2, l2⟩ := loop5b k a p cs es most he ih2 _ 0 n1 rfl (Nat.zero_le _)
    have B1 := LoopS.block f5_loop0 (objs_cons (obj_bxD _) objs_nil) l1
    have B2 := LoopS.block f5_loop2 (objs_cons (obj_bxD _) objs_nil) l2
    refine ⟨n2, F5 _ _ _ _ _ _ (by simp) ?_⟩
    simp [e5a, e5b, bxD] at B1 B2
    simp [T5]
    refine ⟨_, B1, ?_⟩
    simp
    exact ⟨_, B2, by simp⟩
/-! The statement's function. -/
theorem Sem.args {P : Program} {f : Nat} {args : List AV} {h h' : List AObj} {v : AV} (hc : Sem P f (wks args) h v h') : Sem P f args h v h' := fun R K w us hR W hvl => hc R K w us hR W hvl.wk
theorem ints_path (p q : List Int) (hb : p.length < 1000000000000) : Sem Tryz.prog 10 [.pv (pathP p), .pv (ints q)] [] (.pv (bv (decide (p = q)))) [] := by
  by_cases hp : p = []
  · have := ints10 p q hb
    rw [pathP, if_pos hp]
    subst hp
    exact Sem.args this
  · rw [pathP, if_neg hp]; exact ints10 p q hb
def nms (l : VL1) : PV := .rows (nrow l)
def pas (l : VL1) : PV := .rows (prow l)
def vrs (l : VL1) : PV := .rows (vrow l)
section
variable {r : AV}
theorem len_nms (l : VL1) : LenOk Tryz.prog 38 (.pv (nms l)) r ↔ r = .pv (iv l.length) := by rw [nms, len_ok s38, nrow_len]
theorem len_pas (l : VL1) : LenOk Tryz.prog 39 (.pv (pas l)) r ↔ r = .pv (iv l.length) := by rw [pas, len_ok s39, prow_len]
theorem len_vrs (l : VL1) : LenOk Tryz.prog 42 (.pv (vrs l)) r ↔ r = .pv (iv l.length) := by rw [vrs, len_ok s42, vrow_len]
theorem idx_nms {l : VL1} {i : Nat} {s : ByteArray} {p : List Int} (h : l[i]? = some (s, p)) : IdxOk Tryz.prog 38 (.pv (nms l)) (.pv (.lit (.int .i64 (i : Int)))) r ↔ r = .cptr [sv s] := by
  rw [nms]; exact idx_ok s38 (by rw [nrow, List.getElem?_map, h, Option.map_some]) rfl
theorem idx_pas {l : VL1} {i : Nat} {s : ByteArray} {p : List Int} (h : l[i]? = some (s, p)) : IdxOk Tryz.prog 39 (.pv (pas l)) (.pv (.lit (.int .i64 (i : Int)))) r ↔ r = .cptr [pathP p] := by
  rw [pas]; exact idx_ok s39 (by rw [prow, List.getElem?_map, h, Option.map_some]) rfl
theorem idx_vrs {l : VL1} {i : Nat} {s : ByteArray} {p : List Int} (h : l[i]? = some (s, p)) : IdxOk Tryz.prog 42 (.pv (vrs l)) (.pv (.lit (.int .i64 (i : Int)))) r ↔ r = .cptr [sv s, ints p] := by
  rw [vrs]; exact idx_ok s42 (by rw [vrow, List.getElem?_map, h, Option.map_some]) rfl
end
@[simp] theorem ns_nms (l : VL1) : NS (nms l) := ns_nrow l
@[simp] theorem ns_pas (l : VL1) : NS (pas l) := ns_prow l
@[simp] theorem ns_vrs (l : VL1) : NS (vrs l) := ns_vrow l
def e3a (l : VL1) (i : Nat) : Env := [(69, .pv (iv i)), (68, .pv (iv l.length)), (10, .pv (nms l)), (12, .pv (vrs l)), (11, .pv (pas l)), (3, .ptr 0 0)]
theorem loop3a (t : Dc) (l : VL1) (hl : l.length < 1000000000000) (hp : ∀ x ∈ l, x.2.length < 1000000000000) :
    LoopS Tryz.prog Tryz.f3 0 1 (e3a l 0) [bxD t] (.exit 0) [(3, .ptr 0 0)] [bxD t] := by
  obtain ⟨k, a, p, cs, es⟩ := t
  have main := list_loop (P := Tryz.prog) (fn := Tryz.f3) (id := 0) (m0 := 1) (ex := .exit 0) l (fun (_ : Unit) i => (e3a l i, [bxD (.mk k a p cs es)])) (fun _ => ([(3, .ptr 0 0)], [bxD (.mk k a p cs es)])) (fun _ _ => True) (by simp) ?_ ?_ _ 0 () rfl (Nat.zero_le _) trivial
  · obtain ⟨_, _, h⟩ := main
    exact h
  · rintro i ⟨s, q⟩ hc _ _
    refine ⟨(), trivial, fun R => ?_⟩
    have hi := lt_of_get hc
    have hw := wrap_succ (k := i) (by omega)
    have h10 := ints_path q q (hp _ (List.mem_of_getElem? hc))
    simp only [decide_true] at h10
    refine L3b0a _ _ _ _ _ _ _ _ _ _ (by simp) (by simp [H3b0a]) ?_ R
    simp [T3b0a, e3a, bxD, hi, idx_nms hc, idx_vrs hc, idx_pas hc, h10, hw]
  · intro _ _ R
    refine L3b0a _ _ _ _ _ _ _ _ _ _ (by simp) (by simp [H3b0a]) ?_ R
    simp [T3b0a, bxD]
def e3b (es : List Dc) (i : Nat) : Env := [(99, .pv (iv i)), (98, .pv (iv es.length)), (97, .pv (dcs es)), (3, .ptr 0 0)]
theorem loop3b (t : Dc) (ht : t.Ok) (es : List Dc) (hl : es.length < 1000000000000) :
    LoopS Tryz.prog Tryz.f3 2 1 (e3b es 0) [bxD t] (.exit 2) [(3, .ptr 0 0)] [bxD t] := by
  have main := list_loop (P := Tryz.prog) (fn := Tryz.f3) (id := 2) (m0 := 1) (ex := .exit 2) es (fun (_ : Unit) i => (e3b es i, [bxD t])) (fun _ => ([(3, .ptr 0 0)], [bxD t])) (fun _ _ => True) (by simp) ?_ ?_ _ 0 () rfl (Nat.zero_le _) trivial
  · obtain ⟨_, _, h⟩ := main
    exact h
  · intro i d hc _ _
    refine ⟨(), trivial, fun R => ?_⟩
    have hi := lt_of_get hc
    have hw := wrap_succ (k := i) (by omega)
    have h11 := same11 t ht d
    have h12 := same12 t ht d
    generalize t.same d = b at h11 h12
    obtain ⟨k1, a1, p1, cs1, es1⟩ := d
    obtain ⟨k, a, p, cs, es'⟩ := t
    simp [dcA] at h11 h12
    refine L3b2a _ _ _ _ _ _ _ _ (by simp) (by simp [H3b2a]) ?_ R
    cases b <;> simp [T3b2a, e3b, bxD, hi, idx_dcs hc, h11, h12, hw]
  · intro _ _ R
    obtain ⟨k, a, p, cs, es'⟩ := t
    refine L3b2a _ _ _ _ _ _ _ _ (by simp) (by simp [H3b2a]) ?_ R
    simp [T3b2a, bxD]
theorem main3 (hA : Sem Tryz.prog 4 [] [] (.pv (bv true)) []) (t : Dc) (ht : t.Ok) (x : Vl) {d : Nat} (p : Pt) (hp : p.Ok d) (hd : d ≤ 1000000) (hN : (p.vars []).length ≤ 1000000000) (hpl : ∀ y ∈ p.vars [], y.2.length < 1000000000000) (hL : t.leaves.length ≤ 100000000000) :
    Sem Tryz.prog 3 [dcA t, vlA x, ptA p] [] (.pv (bv true)) [] := by
  obtain ⟨n, hS⟩ := small5 t ht 300
  have h6 := run6 x t ht
  have h7 := run7 x t ht
  have h8 := vars8 hp hd hN
  have h9 := vars9 hp [] (by simp; omega) hN
  have h13 := leaves13 t ht hL
  have h14 := leaves14 t ht hL
  have h10 := ints10 t.leaves t.leaves (by omega)
  simp only [decide_true] at h10
  have hle : t.leaves.length < 1000000000000 := by omega
  generalize t.leaves = lv at h13 h14 h10
  have B1 := LoopS.block f3_loop0 (objs_cons (obj_bxD _) objs_nil) (loop3a t (p.vars []) (by omega) hpl)
  generalize p.vars [] = vl at h8 h9 B1
  change Sem Tryz.prog 8 _ _ (.tup [.pv (nms vl), .pv (pas vl)]) _ at h8
  change Sem Tryz.prog 9 _ _ (.pv (vrs vl)) _ at h9
  have B2 := fun es hes => LoopS.block f3_loop2 (objs_cons (obj_bxD _) objs_nil) (loop3b t ht es hes)
  generalize t.run x = o at h6 h7
  cases ht with
  | mk k a pa cs es hpa hcs hes _ _ =>
  have B2 := B2 es hes
  obtain ⟨kx, nx, sx, ksx⟩ := x
  obtain ⟨kp, sp, np, ksp, ap⟩ := p
  simp [dcA, vlA, ptA, res6] at hS h6 h7 h8 h9 h13 h14
  simp [e3a, e3b, bxD] at B1 B2
  refine F3 _ _ _ _ _ _ _ _ _ _ _ _ _ _ (by simp) ?_
  simp [T3, hA]
  refine ⟨_, hS, ?_⟩
  by_cases hn : 300 ≤ n
  · simp [hn]
  · simp [hn]
    cases o with
    | some r =>
      simp at h6 h7
      refine .inl ⟨_, h6, ?_⟩
      simp
      refine ⟨_, h7, ?_⟩
      simp
      refine ⟨_, _, h8, ?_⟩
      simp
      refine ⟨_, h9, ?_⟩
      simp [len_nms, len_vrs, len_pas]
      refine .inl ⟨B1, .inl ⟨B2, ?_⟩⟩
      refine ⟨_, h13, ?_⟩
      simp
      exact ⟨_, h14, by simp [h10]⟩
    | none =>
      simp at h6 h7
      refine .inr ⟨_, h6, ?_⟩
      simp
      refine ⟨_, h7, ?_⟩
      simp
      refine ⟨_, _, h8, ?_⟩
      simp
      refine ⟨_, h9, ?_⟩
      simp [len_nms, len_vrs, len_pas]
      refine .inl ⟨B1, .inl ⟨B2, ?_⟩⟩
      refine ⟨_, h13, ?_⟩
      simp
      exact ⟨_, h14, by simp [h10]⟩
end Go.Proofs.YtmgmknpgikgnlaaGreat
