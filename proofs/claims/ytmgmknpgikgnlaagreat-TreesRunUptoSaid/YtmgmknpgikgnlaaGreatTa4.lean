/- What is decided of a value. -/
import Derived.Test.YtmgmknpgikgnlaaGreatTa3
namespace Go.Proofs.YtmgmknpgikgnlaaGreat
open Go.RowKit

mutual
def Dc.run (x : Vl) : Dc → Option Int
  | .mk kind alt path cases els => if kind = 1 then some alt else if kind = 2 then match x.at path with
      | none => none
      | some y => match Cs.find x y cases with
        | some r => r
        | none => Dc.first x els
    else none
def Cs.find (x y : Vl) : List Cs → Option (Option Int)
  | [] => none
  | c :: l => if fits y c then some (c.runD x) else Cs.find x y l
def Cs.runD (x : Vl) : Cs → Option Int
  | .mk _ _ _ d => d.run x
def Dc.first (x : Vl) : List Dc → Option Int
  | [] => none
  | d :: _ => d.run x
end
/-- Decisions of lists that are not too long. -/
inductive Dc.Ok : Dc → Prop where
  | mk (k a : Int) (p : List Int) (cs : List Cs) (es : List Dc) (hp : p.length < 1000000000000) (hc : cs.length < 1000000000000) (he : es.length < 1000000000000)
      (h1 : ∀ k0 s0 n0 d, Cs.mk k0 s0 n0 d ∈ cs → d.Ok) (h2 : ∀ d ∈ es, d.Ok) : Dc.Ok (.mk k a p cs es)
def dcA : Dc → AV
  | .mk k a p cs es => .agg [.pv (iv k), .pv (iv a), .pv (ints p), .pv (css cs), .pv (dcs es)]
def bxD : Dc → AObj
  | .mk k a p cs es => .box 26 [.pv (iv k), .pv (iv a), .pv (ints p), .pv (css cs), .pv (dcs es)]
@[simp] theorem obj_bxD (y : Dc) : NSO (bxD y) := by
  obtain ⟨k, a, p, cs, es⟩ := y
  simp [bxD]
def Dc.kind : Dc → Int
  | .mk k _ _ _ _ => k
def Dc.alt : Dc → Int
  | .mk _ a _ _ _ => a
theorem Cs.find_at {x y : Vl} {c : Cs} : ∀ {l : List Cs} {j : Nat}, l[j]? = some c → fits y c = true → (∀ k, k < j → ∀ c', l[k]? = some c' → fits y c' = false) → Cs.find x y l = some (c.runD x)
  | [], j, h, _, _ => by simp at h
  | d :: l, 0, h, hf, _ => by
    simp at h
    subst h
    rw [Cs.find, if_pos hf]
  | d :: l, j + 1, h, hf, hb => by
    have hd := hb 0 (by omega) d rfl
    rw [Cs.find, if_neg (by rw [hd]; simp)]
    exact Cs.find_at (by simpa using h) hf (fun k hk c' hc' => hb (k + 1) (by omega) c' (by simpa using hc'))
theorem Cs.find_none {x y : Vl} : ∀ {l : List Cs}, (∀ c ∈ l, fits y c = false) → Cs.find x y l = none
  | [], _ => by rw [Cs.find]
  | d :: l, h => by
    rw [Cs.find, if_neg (by rw [h d (List.mem_cons_self ..)]; simp)]
    exact Cs.find_none fun c hc => h c (List.mem_cons_of_mem _ hc)
/-! Run, by a loop. -/
abbrev st6 : Env := [(2, .ptr 0 0), (3, .ptr 1 0)]
def res6 (o : Option Int) : AV := .tup [.pv (iv (o.getD 0)), .pv (bv o.isSome)]
theorem loop6 (x : Vl) (t : Dc) (ht : t.Ok) :
    (∃ t' : Dc, t'.kind ≠ 2 ∧ t.run x = (if t'.kind = 1 then some t'.alt else none) ∧ LoopS Tryz.prog Tryz.f6 0 2 st6 [bxD t, bx x] (.exit 0) [(2, .ptr 0 0)] [bxD t', bx x]) ∨
    (∃ t' : Dc, t.run x = none ∧ LoopS Tryz.prog Tryz.f6 0 2 st6 [bxD t, bx x] .ret [(4, .pv (iv 0)), (5, .pv (bv false))] [bxD t', bx x]) := by
  induction ht with
  | mk k a p cs es hp hc he h1 h2 ih1 ih2 =>
    have hnx := x
    obtain ⟨kx, nx, sx, ksx⟩ := x
    by_cases hk : k = 2
    · subst hk
      have hat := at17 (.mk kx nx sx ksx) p hp
      cases hy : (Vl.mk kx nx sx ksx).at p with
      | none =>
        refine .inr ⟨.mk 2 a p cs es, by rw [Dc.run, if_neg (by decide), if_pos rfl, hy], ?_⟩
        rw [hy] at hat
        simp [atRes, vlA] at hat
        refine LoopS.done (L6b0a _ _ _ _ _ _ _ _ _ (by simp) (by simp [H6b0a]) ?_) (by simp)
        simp [T6b0a, bxD, bx]
        exact .inr ⟨_, _, _, _, hat, by simp⟩
      | some y =>
        rw [hy] at hat
        have hfi := index18 cs y hc
        obtain ⟨ky, ny, sy, ksy⟩ := y
        simp [atRes, vlA] at hat
        rcases hfi with ⟨g1, g2⟩ | ⟨j, c, g1, g2, g3, g4⟩
        · have hf := Cs.find_none (x := .mk kx nx sx ksx) g1
          simp [bx] at g2
          cases es with
          | nil =>
            refine .inr ⟨.mk 2 a p cs [], by rw [Dc.run, if_neg (by decide), if_pos rfl, hy]; simp only [hf, Dc.first], ?_⟩
            refine LoopS.done (L6b0a _ _ _ _ _ _ _ _ _ (by simp) (by simp [H6b0a]) ?_) (by simp)
            simp [T6b0a, bxD, bx]
            refine .inl ⟨_, _, _, _, hat, ?_⟩
            simp
            exact ⟨_, g2, by simp⟩
          | cons e es =>
            have hrun : (Dc.mk 2 a p cs (e :: es)).run (.mk kx nx sx ksx) = e.run (.mk kx nx sx ksx) := by rw [Dc.run, if_neg (by decide), if_pos rfl, hy]; simp only [hf, Dc.first]
            have he0 : (e :: es)[0]? = some e := rfl
            have step : ∀ {ex e' h'}, LoopS Tryz.prog Tryz.f6 0 2 st6 [bxD e, bx (.mk kx nx sx ksx)] ex e' h' → LoopS Tryz.prog Tryz.f6 0 2 st6 [bxD (.mk 2 a p cs (e :: es)), bx (.mk kx nx sx ksx)] ex e' h' := fun g => by
              refine LoopS.again (L6b0a _ _ _ _ _ _ _ _ _ (by simp) (by simp [H6b0a]) ?_) g
              obtain ⟨ke, ae, pe, cse, ese⟩ := e
              have hi : ∀ r, IdxOk Tryz.prog 24 (.pv (dcs (Dc.mk ke ae pe cse ese :: es))) (.pv (.lit (.int .i64 0))) r ↔ r = .cptr [iv ke, iv ae, ints pe, css cse, dcs ese] := fun r => idx_dcs (i := 0) he0
              have hl : (0 : Int) < (es.length : Int) + 1 := by omega
              simp [T6b0a, bxD, bx]
              refine ⟨_, _, _, _, hat, ?_⟩
              simp
              refine ⟨_, g2, ?_⟩
              simp [hl, hi]
            rw [hrun]
            rcases ih2 e (List.mem_cons_self ..) with ⟨t', q1, q2, q3⟩ | ⟨t', q1, q2⟩
            · exact .inl ⟨t', q1, q2, step q3⟩
            · exact .inr ⟨t', q1, step q2⟩
        · have hf := Cs.find_at (x := .mk kx nx sx ksx) g1 g2 g3
          obtain ⟨k0, s0, n0, d⟩ := c
          have hrun : (Dc.mk 2 a p cs es).run (.mk kx nx sx ksx) = d.run (.mk kx nx sx ksx) := by rw [Dc.run, if_neg (by decide), if_pos rfl, hy]; simp only [hf, Cs.runD]
          simp [bx] at g4
          have step : ∀ {ex e' h'}, LoopS Tryz.prog Tryz.f6 0 2 st6 [bxD d, bx (.mk kx nx sx ksx)] ex e' h' → LoopS Tryz.prog Tryz.f6 0 2 st6 [bxD (.mk 2 a p cs es), bx (.mk kx nx sx ksx)] ex e' h' := fun g => by
            refine LoopS.again (L6b0a _ _ _ _ _ _ _ _ _ (by simp) (by simp [H6b0a]) ?_) g
            obtain ⟨kd, ad, pd, csd, esd⟩ := d
            have hj : (0 : Int) ≤ (j : Int) := by omega
            simp [T6b0a, bxD, bx]
            refine ⟨_, _, _, _, hat, ?_⟩
            simp
            refine ⟨_, g4, ?_⟩
            simp [hj, idx_css g1]
          rw [hrun]
          rcases ih1 k0 s0 n0 d (List.mem_of_getElem? g1) with ⟨t', q1, q2, q3⟩ | ⟨t', q1, q2⟩
          · exact .inl ⟨t', q1, q2, step q3⟩
          · exact .inr ⟨t', q1, step q2⟩
    · refine .inl ⟨.mk k a p cs es, hk, by rw [Dc.run, if_neg hk]; by_cases h1 : k = 1 <;> simp [Dc.kind, Dc.alt, h1], ?_⟩
      refine LoopS.done (L6b0a _ _ _ _ _ _ _ _ _ (by simp) (by simp [H6b0a]) ?_) (by simp)
      simp [T6b0a, bxD, bx, hk]
theorem run6 (x : Vl) (t : Dc) (ht : t.Ok) : Sem Tryz.prog 6 [dcA t, vlA x] [] (res6 (t.run x)) [] := by
  rcases loop6 x t ht with ⟨t', q1, q2, q3⟩ | ⟨t', q1, q2⟩
  · have hB := LoopS.block f6_loop0 (objs_cons (obj_bxD _) (objs_cons (obj_bx _) objs_nil)) q3
    obtain ⟨k, a, p, cs, es⟩ := t
    obtain ⟨kx, nx, sx, ksx⟩ := x
    obtain ⟨k', a', p', cs', es'⟩ := t'
    refine F6 _ _ _ _ _ _ _ _ _ (by simp) ?_
    simp [bxD, bx] at hB
    rw [q2]
    by_cases h1 : k' = 1
    · simp [T6, res6, Dc.kind, Dc.alt, h1] at hB ⊢
      exact .inl ⟨_, _, _, _, _, hB, by simp⟩
    · simp [T6, res6, Dc.kind, Dc.alt, h1] at hB ⊢
      exact .inl ⟨_, _, _, _, _, hB, by simp [h1]⟩
  · have hB := LoopS.blockRet f6_loop0 (objs_cons (obj_bxD _) (objs_cons (obj_bx _) objs_nil)) q2
    obtain ⟨k, a, p, cs, es⟩ := t
    obtain ⟨kx, nx, sx, ksx⟩ := x
    obtain ⟨k', a', p', cs', es'⟩ := t'
    refine F6 _ _ _ _ _ _ _ _ _ (by simp) ?_
    simp [bxD, bx] at hB
    rw [q1]
    simp [T6, res6]
    exact .inr ⟨_, _, _, _, _, _, hB, by simp⟩
/-! The document's Run. -/
def st7 (i : Nat) : Env := [(7, .pv (iv i)), (2, .ptr 0 0), (5, .ptr 1 0), (3, .ptr 2 0)]
theorem loop7 (x y : Vl) (k a : Int) (p : List Int) (cs : List Cs) (es : List Dc) (hc : cs.length < 1000000000000) (ih : ∀ k0 s0 n0 d, Cs.mk k0 s0 n0 d ∈ cs → Sem Tryz.prog 7 [dcA d, vlA x] [] (.pv (iv ((d.run x).getD (-1)))) []) :
    ∀ (m i : Nat), cs.length - i = m → i ≤ cs.length →
    (Cs.find x y (cs.drop i) = none ∧ LoopS Tryz.prog Tryz.f7 0 3 (st7 i) [bxD (.mk k a p cs es), bx y, bx x] (.exit 0) [(2, .ptr 0 0), (3, .ptr 2 0)] [bxD (.mk k a p cs es), bx y, bx x]) ∨
    (∃ r, Cs.find x y (cs.drop i) = some r ∧ LoopS Tryz.prog Tryz.f7 0 3 (st7 i) [bxD (.mk k a p cs es), bx y, bx x] .ret [(4, .pv (iv (r.getD (-1))))] [bxD (.mk k a p cs es), bx y, bx x]) := by
  obtain ⟨kx, nx, sx, ksx⟩ := x
  obtain ⟨ky, ny, sy, ksy⟩ := y
  intro m
  induction m with
  | zero =>
    intro i hm hk
    refine .inl ⟨by rw [List.drop_of_length_le (by omega), Cs.find], ?_⟩
    refine LoopS.done (L7b0a _ _ _ _ _ _ _ _ _ _ _ _ _ _ (by simp) (by simp [H7b0a]) ?_) (by simp)
    have hk' : ¬ i < cs.length := by omega
    simp [T7b0a, hk', bx, bxD]
  | succ m ih2 =>
    intro i hm hk
    have hk1 : i < cs.length := by omega
    have hw := wrap_succ (k := i) (by omega)
    obtain ⟨c, hc1⟩ : ∃ c, cs[i]? = some c := ⟨cs[i], List.getElem?_eq_getElem hk1⟩
    have hd : cs.drop i = c :: cs.drop (i + 1) := by
      rw [List.drop_eq_getElem_cons hk1]
      rw [List.getElem?_eq_getElem hk1] at hc1
      rw [Option.some.inj hc1]
    rw [hd, Cs.find]
    obtain ⟨k0, s0, n0, d⟩ := c
    have hr := ih k0 s0 n0 d (List.mem_of_getElem? hc1)
    obtain ⟨k1, a1, p1, cs1, es1⟩ := d
    simp [dcA, vlA] at hr
    have again : fits (.mk ky ny sy ksy) (.mk k0 s0 n0 (.mk k1 a1 p1 cs1 es1)) = false → ∀ {ex e' h'}, LoopS Tryz.prog Tryz.f7 0 3 (st7 (i + 1)) [bxD (.mk k a p cs es), bx (.mk ky ny sy ksy), bx (.mk kx nx sx ksx)] ex e' h' → LoopS Tryz.prog Tryz.f7 0 3 (st7 i) [bxD (.mk k a p cs es), bx (.mk ky ny sy ksy), bx (.mk kx nx sx ksx)] ex e' h' := fun hf ex e' h' g => by
      refine LoopS.again (L7b0a _ _ _ _ _ _ _ _ _ _ _ _ _ _ (by simp) (by simp [H7b0a]) ?_) g
      by_cases q1 : k0 = ky
      · by_cases q3 : k0 = 3
        · have q4 : s0 ≠ sy := fun h => by simp [fits, ← q1, q3, h] at hf
          subst q3
          simp [T7b0a, st7, hk1, idx_css hc1, ← q1, q4, hw, bx, bxD]
        · by_cases q5 : k0 = 4
          · have q6 : n0 ≠ ny := fun h => by simp [fits, ← q1, q5, h] at hf
            subst q5
            simp [T7b0a, st7, hk1, idx_css hc1, ← q1, q6, hw, bx, bxD]
          · simp [T7b0a, st7, hk1, idx_css hc1, ← q1, q3, q5, hw, bx, bxD]
      · simp [T7b0a, st7, hk1, idx_css hc1, q1, hw, bx, bxD]
    cases hf : fits (.mk ky ny sy ksy) (.mk k0 s0 n0 (.mk k1 a1 p1 cs1 es1)) with
    | true =>
      refine .inr ⟨_, by rw [if_pos rfl], ?_⟩
      refine LoopS.done (L7b0a _ _ _ _ _ _ _ _ _ _ _ _ _ _ (by simp) (by simp [H7b0a]) ?_) (by simp)
      rw [Cs.runD]
      simp [fits] at hf
      obtain ⟨q1, q2⟩ := hf
      rcases q2 with ⟨q3, q4⟩ | ⟨q3, q4⟩
      · subst q1; subst q3; subst q4
        simp [T7b0a, hk1, idx_css hc1, bx, bxD]
        exact ⟨_, hr, by simp⟩
      · subst q1; subst q3; subst q4
        simp [T7b0a, hk1, idx_css hc1, bx, bxD]
        exact ⟨_, hr, by simp⟩
    | false =>
      rcases ih2 (i + 1) (by omega) (by omega) with ⟨g1, g2⟩ | ⟨r, g1, g2⟩
      · exact .inl ⟨by simpa using g1, again hf g2⟩
      · exact .inr ⟨r, by simpa using g1, again hf g2⟩
theorem run7 (x : Vl) (t : Dc) (ht : t.Ok) : Sem Tryz.prog 7 [dcA t, vlA x] [] (.pv (iv ((t.run x).getD (-1)))) [] := by
  induction ht with
  | mk k a p cs es hp hc he h1 h2 ih1 ih2 =>
    have hat := at20 p x hp
    have hlp := fun y => loop7 x y k a p cs es hc ih1 _ 0 rfl (Nat.zero_le _)
    obtain ⟨kx, nx, sx, ksx⟩ := x
    refine F7 _ _ _ _ _ _ _ _ _ (by simp) ?_
    by_cases hk1 : k = 1
    · subst hk1
      have : (Dc.mk 1 a p cs es).run (.mk kx nx sx ksx) = some a := by rw [Dc.run, if_pos rfl]
      simp [T7, this]
    · by_cases hk2 : k = 2
      · subst hk2
        cases hy : (Vl.mk kx nx sx ksx).at p with
        | none =>
          have hrun : (Dc.mk 2 a p cs es).run (.mk kx nx sx ksx) = none := by rw [Dc.run, if_neg (by decide), if_pos rfl, hy]
          rw [hy] at hat
          simp [atRes, vlA] at hat
          simp [T7, hrun]
          exact .inr ⟨_, _, _, _, hat, by simp⟩
        | some y =>
          rw [hy] at hat
          rcases hlp y with ⟨g1, g2⟩ | ⟨r, g1, g2⟩
          · have hB := LoopS.block f7_loop0 (objs_cons (obj_bxD _) (objs_cons (obj_bx _) (objs_cons (obj_bx _) objs_nil))) g2
            obtain ⟨ky, ny, sy, ksy⟩ := y
            simp [atRes, vlA] at hat
            simp [bx, bxD, st7] at hB
            rw [List.drop_zero] at g1
            cases es with
            | nil =>
              have hrun : (Dc.mk 2 a p cs []).run (.mk kx nx sx ksx) = none := by rw [Dc.run, if_neg (by decide), if_pos rfl, hy]; simp only [g1, Dc.first]
              simp [T7, hrun]
              refine .inl ⟨_, _, _, _, hat, ?_⟩
              simp
              exact .inl hB
            | cons e es =>
              have hrun : (Dc.mk 2 a p cs (e :: es)).run (.mk kx nx sx ksx) = e.run (.mk kx nx sx ksx) := by rw [Dc.run, if_neg (by decide), if_pos rfl, hy]; simp only [g1, Dc.first]
              have hr := ih2 e (List.mem_cons_self ..)
              have he0 : (e :: es)[0]? = some e := rfl
              rw [hrun]
              obtain ⟨ke, ae, pe, cse, ese⟩ := e
              simp [dcA, vlA] at hr
              have hi : ∀ r, IdxOk Tryz.prog 24 (.pv (dcs (Dc.mk ke ae pe cse ese :: es))) (.pv (.lit (.int .i64 0))) r ↔ r = .cptr [iv ke, iv ae, ints pe, css cse, dcs ese] := fun r => idx_dcs (i := 0) he0
              have hl : (0 : Int) < (es.length : Int) + 1 := by omega
              simp [T7]
              refine .inl ⟨_, _, _, _, hat, ?_⟩
              simp [hl, hi]
              exact .inl ⟨hB, _, hr, by simp⟩
          · have hB := LoopS.blockRet f7_loop0 (objs_cons (obj_bxD _) (objs_cons (obj_bx _) (objs_cons (obj_bx _) objs_nil))) g2
            obtain ⟨ky, ny, sy, ksy⟩ := y
            simp [atRes, vlA] at hat
            simp [bx, bxD, st7] at hB
            rw [List.drop_zero] at g1
            have hrun : (Dc.mk 2 a p cs es).run (.mk kx nx sx ksx) = r := by rw [Dc.run, if_neg (by decide), if_pos rfl, hy]; simp only [g1]
            rw [hrun]
            simp [T7]
            refine .inl ⟨_, _, _, _, hat, ?_⟩
            simp
            exact .inr ⟨_, hB, by simp⟩
      · have hrun : (Dc.mk k a p cs es).run (.mk kx nx sx ksx) = none := by rw [Dc.run, if_neg hk1, if_neg hk2]
        simp [T7, hrun, hk1, hk2]
end Go.Proofs.YtmgmknpgikgnlaaGreat
