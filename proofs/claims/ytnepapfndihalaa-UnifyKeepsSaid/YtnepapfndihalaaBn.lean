/- Joined texts. -/
import Derived.Test.YtnepapfndihalaaBm
import Derived.Test.YtnepapfndihalaaBe
import Derived.Test.YtnepapfndihalaaRows
import Derived.ChangeArms
set_option linter.unusedVariables false
set_option linter.unusedSimpArgs false
set_option linter.unusedSectionVars false
namespace Go.Proofs.Ytnepapfndihalaa
open Go.RowKit
theorem ihs_all {U : List Int} {C : Nat} (hC : C ≤ 1000000) (l : List Pr) (hb : l.length ≤ 1000) (FR : PV) (fr : Int) : ∀ (m : List Pr) (i : Nat), l.drop i = m → (∀ p ∈ m, GdT U p.a ∧ GdT U p.b) → Ihs U C (iv l.length) (prs l) FR fr i
  | [], i, hd, _ => by
    have hi := drop_nil hd
    refine ⟨fun s hB ht hs hf => ?_, fun s hB ht hs hf => ?_, fun s L hB hL ht hs hf => ?_, fun s hB hs hf => ?_, fun s hB hs hf => ?_, fun s L hB hL hs hf => ?_⟩
    · exact LawE.b2 (iv s.st) (sbs s.b) (Evl.of (by rw [h4b2a, g4b2a]; simp [hi]))
    · exact LawE.b2 (iv s.st) (sbs s.b) (Evl.of (by rw [h4b2b, g4b2b]; simp [hi]))
    · exact LawE.b2 (iv s.st) (sbs s.b) (Evl.of (by rw [h4b2c, g4b2c]; simp [hi]))
    · exact LawE.b3 (iv s.st) (sbs s.b) (ints s.tr) (Evl.of (by rw [h4b2d, g4b2d]; simp [hi]))
    · exact LawE.b3 (iv s.st) (sbs s.b) (ints s.tr) (Evl.of (by rw [h4b2e, g4b2e]; simp [hi]))
    · exact LawE.b3 (iv s.st) (sbs s.b) (ints s.tr) (Evl.of (by rw [h4b2f, g4b2f]; simp [hi]))
  | p :: m, i, hd, hg => by
    obtain ⟨hx, hi, hd'⟩ := drop_cons hd
    have ih := ihs_all hC l hb FR fr m (i + 1) hd' (fun q hq => hg q (List.mem_cons_of_mem _ hq))
    rw [c1k] at ih
    obtain ⟨ga, gb⟩ := hg p List.mem_cons_self
    refine ⟨fun s hB ht hs hf => ?_, fun s hB ht hs hf => ?_, fun s L hB hL ht hs hf => ?_, fun s hB hs hf => ?_, fun s hB hs hf => ?_, fun s L hB hL hs hf => ?_⟩
    · obtain ⟨s', r, r2, q2, H⟩ := step_h hC hB hs ga gb
      subst hf
      exact hd_a hC H rfl ht hs hx hi hb FR ih
    · obtain ⟨s', r, r2, q2, H⟩ := step_h hC hB hs ga gb
      subst hf
      exact hd_b hC H rfl ht hs hx hi hb FR ih
    · obtain ⟨s', r, r2, q2, H⟩ := step_h hC hB hs ga gb
      subst hf
      exact hd_c hC H hL ht hs hx hi hb FR ih
    · obtain ⟨s', r, r2, q2, H⟩ := step_h hC hB hs ga gb
      subst hf
      exact hd_d hC H rfl hs hx hi hb FR ih
    · obtain ⟨s', r, r2, q2, H⟩ := step_h hC hB hs ga gb
      subst hf
      exact hd_e hC H rfl hs hx hi hb FR ih
    · obtain ⟨s', r, r2, q2, H⟩ := step_h hC hB hs ga gb
      subst hf
      exact hd_f hC H hL hs hx hi hb FR ih
/-! Fresh metas. -/
theorem fresh_ev (fr : Int) (h0 : 0 ≤ fr) (h1 : fr ≤ 100) : ev (q10a (iv fr) i0 (.rows [])) = some (0, [nS, iv (fr + 1), i0, .rows [], i2, e0, iv fr, nS]) := Evl.of (by
  have w1 : IntKind.i64.wrap (fr + 1) = fr + 1 := by rw [IntKind.wrap_i64]; omega
  have w2 : IntKind.i64.wrap fr = fr := by rw [IntKind.wrap_i64]; omega
  rw [h10a, g10a]
  simp [w1, w2])
theorem count_a (a b c : PV) : ev (q11a a b c) = some (0, [nS, a, b, c, a]) := Evl.of (by rw [h11a, g11a]; simp)
theorem count_b (a b c d : PV) : ev (q11b a b c d) = some (0, [a, b, c, d, a]) := Evl.of (by rw [h11b, g11b]; simp)
theorem new_l (n : Nat) (hn : n ≤ 100) (P F : PV) : ∀ (k i : Nat), i + k = n → ev (q4b0a (iv (i : Int)) (iv (n : Int)) P F (iv (i : Int)) (.rows [])) = some (1, [nS, iv (n : Int), i0, .rows [], nS, bf, P, F])
  | 0, i, h => by
    have h : i = n := by omega
    subst h
    exact Evl.of (by rw [h4b0a, g4b0a]; simp)
  | k + 1, i, h => by
    have ih := new_l n hn P F k (i + 1) (by omega)
    have hi : (i : Int) < (n : Int) := by omega
    have hf := fresh_ev (i : Int) (by omega) (by omega)
    have e0 := wrapI (i := i) (by omega)
    have hc := count_a (iv ((i : Int) + 1)) i0 (.rows [])
    rw [c1k] at ih
    exact Evl.of (by rw [h4b0a, g4b0a]; simp [hi, hf, hc, e0, ih])
/-! All metas of the pairs. -/
def allM (l : List Pr) : List Int := l.flatMap fun p => metR (allF p.a) [] ++ metR (allF p.b) []
theorem mem_met {t : Ty} {n : Int} (h : hasM n t = true) : n ∈ metR (allF t) [] := by
  have := met_has t n
  rw [h] at this
  exact of_decide_eq_true this
theorem met_sz (t : Ty) : (metR (allF t) []).length ≤ szF t := by
  have := (metR_len (allF t) []).2
  rw [allF_len] at this
  simpa using this
theorem allM_len : ∀ (l : List Pr), (∀ p ∈ l, smallP p = true) → (allM l).length ≤ 80 * l.length
  | [], _ => by simp [allM]
  | p :: l, h => by
    have ih := allM_len l fun q hq => h q (List.mem_cons_of_mem _ hq)
    have hp := h p List.mem_cons_self
    unfold smallP at hp
    simp only [Bool.and_eq_true] at hp
    obtain ⟨⟨⟨_, _⟩, h3⟩, h4⟩ := hp
    have h3 := small_sz h3
    have h4 := small_sz h4
    have m1 := met_sz p.a
    have m2 := met_sz p.b
    have e : allM (p :: l) = (metR (allF p.a) [] ++ metR (allF p.b) []) ++ allM l := rfl
    rw [e, List.length_append, List.length_append, List.length_cons]
    omega
theorem gd_all {l : List Pr} (h : ∀ p ∈ l, smallP p = true) {p : Pr} (hp : p ∈ l) : GdT (allM l) p.a ∧ GdT (allM l) p.b := by
  have hs := h p hp
  have g := good_small hs
  unfold smallP at hs
  simp only [Bool.and_eq_true] at hs
  obtain ⟨⟨⟨h1, h2⟩, _⟩, _⟩ := hs
  exact ⟨⟨g.a, h1, fun m hm => List.mem_flatMap.2 ⟨p, hp, List.mem_append.2 (.inl (mem_met hm))⟩⟩, ⟨g.b, h2, fun m hm => List.mem_flatMap.2 ⟨p, hp, List.mem_append.2 (.inr (mem_met hm))⟩⟩⟩
theorem both_0 {U : List Int} {C : Nat} (hU : U.length ≤ C) (fr : Int) : Both U C ⟨fr, 0, [], []⟩ [] := by
  refine ⟨⟨⟨fun x hx => absurd hx (by simp), fun x hx => absurd hx (by simp)⟩, rfl, by simp, by simp⟩, fun x hx => absurd hx (by simp), fun n => ?_, ⟨fun n u h => ?_, fun n u h => ?_, fun x hx => absurd hx (by simp), fun x hx => absurd hx (by simp), ?_, fun x hx => absurd hx (by simp)⟩, by simp⟩
  · show bget [] n = none; rfl
  · have : bget [] n = none := rfl
    rw [this] at h; cases h
  · have : bget [] n = none := rfl
    rw [this] at h; cases h
  · have : unM U [] ≤ U.length := List.length_filter_le _ _
    simp; omega
theorem awk_ev : ev q5 = some (0, [bt]) := Evl.of (by rw [h5]; rfl)
/-- THE LAW'S VALUE. -/
theorem law_ev (l : List Pr) (n : Int) (hl : l.length ≤ 9223372036854775807) (hf : ∀ p ∈ l, FitP p) : ev (q4 (prs l) (iv n)) = some (0, [bt]) := Evl.of (by
  have ha := awk_ev
  have hs := small_ev l hl hf
  rw [h4, g4]
  cases hsm : smallF l with
  | false =>
    rw [hsm] at hs
    simp [ha, hs]
  | true =>
    rw [hsm] at hs
    by_cases hn : n < 0
    · simp [ha, hs, hn]
    · by_cases hn2 : n > 100
      · simp [ha, hs, hn, hn2]
      · unfold smallF at hsm
        simp only [Bool.and_eq_true, List.all_eq_true, decide_eq_true_eq] at hsm
        obtain ⟨h1, h2⟩ := hsm
        have hb : l.length ≤ 1000 := by omega
        obtain ⟨k, rfl⟩ : ∃ k : Nat, n = k := ⟨n.toNat, by omega⟩
        have hk : k ≤ 100 := by omega
        have hM := allM_len l h1
        have ihs := ihs_all (U := allM l) (C := 1000000) (Nat.le_refl _) l hb (iv (k : Int)) (k : Int) l 0 rfl (fun p hp => gd_all h1 hp)
        have hq := ihs.a ⟨(k : Int), 0, [], []⟩ (both_0 (by omega) _) rfl (show (0 : Int) ≤ maxS by decide) rfl
        have hnew := new_l k hk (prs l) (iv (k : Int)) k 0 (by omega)
        have hne := new_ev
        unfold nilS at hne
        simp only [Int.natCast_zero, Int.ofNat_zero, sbs, List.map_nil] at hq hnew
        obtain ⟨x, y, z, hq⟩ := hq
        have c1 := count_a (iv (k : Int)) x y
        have c2 := count_b (iv (k : Int)) x y z
        rcases hq with hq | hq | hq | hq
        · simp [ha, hs, hn, hn2, hne, hnew, lenK_prs, hq]
        · simp [ha, hs, hn, hn2, hne, hnew, lenK_prs, hq]
        · simp [ha, hs, hn, hn2, hne, hnew, lenK_prs, hq, c1]
        · simp [ha, hs, hn, hn2, hne, hnew, lenK_prs, hq, c2])

theorem ev_fx {q : Q} {r : Rs} {ent : Ent} {sh : Shape} {args : List AV} {h h' : List AObj} {v : AV} (he : EE q.k = ent) (hl : ent.lp = none) (hs : shp SS EE q.k r.1 = sh) (ha : openAVs (nm q.xs) ent.args = args) (hh : openH (nm q.xs) ent.h = h) (hv : openAV (nm r.2) sh.v = v) (hh' : openH (nm r.2) sh.h = h')
    (hn : q.xs.length = ent.n) (hr : ent.rin = []) (hns : NSL q.xs) (h0 : ev q = some r) : Sem Try.prog ent.f args h v h' ∧ NSL r.2 := by
  obtain ⟨h1, h2⟩ := ev_sound h0 ⟨by rw [he]; exact hn, hns, by rw [he, hr]; intro i hi; cases hi⟩
  refine ⟨?_, h2.ns⟩
  unfold SemQ at h1
  rw [he, hl] at h1
  simp only at h1
  rw [hs, ha, hh, hv, hh'] at h1
  exact h1
theorem law_sem (l : List Pr) (n : Int) (hl : l.length ≤ 9223372036854775807) (hf : ∀ p ∈ l, FitP p) : Sem Try.prog 4 [.pv (prs l), .pv (iv n)] [] (.pv (bv true)) [] :=
  (ev_fx (q := q4 (prs l) (iv n)) (r := (0, [bv true])) (ent := EE 8) (sh := shp SS EE 8 0) rfl (by kernel_rfl) rfl (by kernel_rfl) (by kernel_rfl) (by kernel_rfl) (by kernel_rfl) (by kernel_rfl) (by kernel_rfl) (by
    intro p hp
    simp only [List.mem_cons, List.not_mem_nil, or_false] at hp
    rcases hp with rfl | rfl
    · exact ns_prs l
    · exact .lit _) (law_ev l n hl hf)).1

theorem lt_of_get {α : Type} {l : List α} {i : Nat} {a : α} (h : l[i]? = some a) : i < l.length := (List.getElem?_eq_some_iff.1 h).1
def maxN : Nat := 9223372036854775807
def Kw (w : World) : Kn := ⟨fun g o => w.cell? ⟨g, o, none⟩, fun _ => 0, fun _ => 0, fun _ => none, fun _ => .any, fun _ => 0, fun b cs h => by cases h⟩
theorem WR.world (w : World) : WR (Kw w) [] w := by
  refine ⟨fun _ _ => rfl, (fun i hi => by simp at hi), (fun i g h => by cases h), (fun i ty cells h => by simp at h), (fun i ks vs h => by simp at h), (fun i ty sz len h => by simp at h), (fun i j x y g h => by simp at h), (fun i ty cells g h => by simp at h), fun g o v h => h, (fun i ty sz p h => by simp at h)⟩
def AllR (w : World) (ps : List PV) (cs : List Value) : Prop := ps.length = cs.length ∧ ∀ i (h : i < ps.length) (h' : i < cs.length), PR (Kw w).R (Kw w).M ps[i] cs[i]
section
variable {H : Type} {enc : TypeId × Value → H} {P : Program} {w : World} {held : Bool}
abbrev rd (enc : TypeId × Value → H) (P : Program) (w : World) (held : Bool) (n : Nat) (t : TypeId) (cs : List Value) (d : DataW H) : Prop := ∃ q, DataW.trod enc P w 0 (fun _ => true) held n t cs = some (d, q)
/-- A slice. -/
theorem rd_slice {α : Type} (cells : α → List PV) (Q : α → Prop) {t e : TypeId} {sz n : Nat} {cs : List Value} {d : DataW H} (ht : P.underlying t = some (.slice e)) (hsz : P.cellsOf e = sz) (hpos : 0 < sz) (hc : ∀ x, (cells x).length = sz)
    (he : ∀ m cs d, m < n → rd enc P w held m e cs d → ∃ x, AllR w (cells x) cs ∧ Q x) (h : rd enc P w held n t cs d) :
    ∃ (l : List α) (c : Value), cs = [c] ∧ PR (Kw w).R (Kw w).M (.rows (l.map cells)) c ∧ l.length ≤ maxN ∧ ∀ x ∈ l, Q x := by
  obtain ⟨q, h⟩ := h
  rcases DataW.trod_slice ht h with ⟨rfl, hx⟩ | ⟨a, len, cap, elems, rest, m, rfl, rfl, hx, _, hl, hcap, hel, hat, _, _⟩
  · cases hx
    exact ⟨[], _, rfl, PR.nilRow, Nat.zero_le _, fun x hx => by cases hx⟩
  · cases hx
    have key : ∀ i : Fin len, ∃ x : α, ∃ us : List Value, w.cells? 0 (a.add (i * sz)) sz = some us ∧ AllR w (cells x) us ∧ Q x := by
      intro i
      have := hat i i.2
      rw [hsz, List.getElem?_eq_getElem (by rw [hel]; exact i.2)] at this
      simp only [Option.bind_eq_some_iff] at this
      obtain ⟨us, h1, h2⟩ := this
      obtain ⟨x, h3, h4⟩ := he m us _ (by omega) ⟨_, h2⟩
      exact ⟨x, us, h1, h3, h4⟩
    let g : Fin len → α := fun i => (key i).choose
    have hg : ∀ i : Fin len, ∃ us : List Value, w.cells? 0 (a.add (i * sz)) sz = some us ∧ AllR w (cells (g i)) us ∧ Q (g i) := fun i => (key i).choose_spec
    refine ⟨List.ofFn g, _, rfl, ?_, ?_, ?_⟩
    · have hspot : ∀ i : Nat, i < len → ∀ j, j < sz → (a.add (i * sz)).add j = ⟨a.block, a.off + i * sz + j, none⟩ := by
        intro i hi j hj
        have hsp : a.spot = none := by
          obtain ⟨us, h1, _⟩ := hg ⟨0, by omega⟩
          obtain ⟨_, hlen, hcell⟩ := World.cells?_some h1
          have := hcell 0 hpos
          have hlt : 0 < us.length := by omega
          rw [List.getElem?_eq_getElem hlt] at this
          simp only [Nat.zero_mul, Addr.add, if_true, World.cell?] at this
          split at this
          · split at this
            · cases this
            · rename_i hs
              cases hsp : a.spot with
              | none => rfl
              | some x => rw [hsp] at hs; simp at hs
          · cases this
        obtain ⟨b, o, sp⟩ := a
        simp only at hsp
        subst hsp
        unfold Addr.add
        by_cases h1 : i * sz = 0
        · by_cases h2 : j = 0
          · simp [h1, h2]
          · simp [h1, h2]
        · by_cases h2 : j = 0
          · simp [h1, h2]
          · simp [h1, h2]
      have hcs : ∀ i : Nat, ∀ hi : i < len, ∃ us : List Value, us.length = sz ∧ AllR w (cells (g ⟨i, hi⟩)) us ∧ ∀ j, j < sz → w.cell? ⟨a.block, a.off + i * sz + j, none⟩ = us[j]? := by
        intro i hi
        obtain ⟨us, h1, h2, _⟩ := hg ⟨i, hi⟩
        obtain ⟨_, hlen, hcell⟩ := World.cells?_some h1
        exact ⟨us, hlen, h2, fun j hj => by rw [← hspot i hi j hj]; exact hcell j hj⟩
      have hlen : (List.ofFn g).length = len := by simp
      have := PR.rows (R := (Kw w).R) (M := (Kw w).M) ((List.ofFn g).map cells) (some a) cap a.block a.off sz (fun i j => if hi : i < len then (hcs i hi).choose.getD j (.bool false) else .bool false)
        (fun hne => by
          have hl0 : 0 < len := by
            cases len with
            | zero => simp at hne
            | succ _ => omega
          have := hspot 0 hl0 0 hpos
          simp [Addr.add] at this
          rw [this]) (by simpa using hl) (fun i hi => by simp [hc]) ?_ ?_
      · simpa using this
      · intro i hi j hj
        have hi' : i < len := by simpa using hi
        simp only [hi', dif_pos]
        obtain ⟨h1, h2, h3⟩ := (hcs i hi').choose_spec
        show w.cell? _ = _
        rw [h3 j hj, List.getD_eq_getElem?_getD, List.getElem?_eq_getElem (by omega)]
        rfl
      · intro i hi j hj
        have hi' : i < len := by simpa using hi
        simp only [hi', dif_pos]
        obtain ⟨h1, h2, h3⟩ := (hcs i hi').choose_spec
        have hj' : j < sz := by simpa [hc] using hj
        have := h2.2 j (by rw [hc]; exact hj') (by omega)
        simp only [List.getElem_map, List.getElem_ofFn]
        rw [List.getD_eq_getElem?_getD, List.getElem?_eq_getElem (by omega)]
        exact this
    · simp only [List.length_ofFn]
      have : maxLen = maxN := rfl
      omega
    · intro x hx
      obtain ⟨i, rfl⟩ := List.mem_ofFn.1 hx
      obtain ⟨_, _, _, h4⟩ := hg i
      exact h4
def stB (P : Program) (t : TypeId) (l : List (Nat × Nat × Nat)) : Bool := match P.underlying t with
  | some (.struct fs) => decide (fs.toList.map (fun f => (f.type, f.offset, P.cellsOf f.type)) = l)
  | _ => false
theorem rd_struct {t : TypeId} {l : List (Nat × Nat × Nat)} {n : Nat} {cs : List Value} {d : DataW H} (hs : stB P t l = true) (h : rd enc P w held n t cs d) :
    ∃ (ds : List (DataW H)) (m : Nat), n = m + 1 ∧ d = .agg ds ∧ cs.length = P.cellsOf t ∧ ds.length = l.length ∧ ∀ i ty off c, l[i]? = some (ty, off, c) → ∃ (hi : i < ds.length), rd enc P w held m ty ((cs.drop off).take c) ds[i] := by
  unfold stB at hs
  split at hs
  · rename_i fs hfs
    have hs := of_decide_eq_true hs
    obtain ⟨q, h⟩ := h
    obtain ⟨xs, m, hm, hx, hl, hlen, hf⟩ := DataW.trod_struct hfs h
    cases hx
    have hll : l.length = fs.size := by rw [← hs]; simp
    refine ⟨_, m, hm, rfl, hl, by simp [hlen, hll], fun i ty off c hi => ?_⟩
    rw [← hs, List.getElem?_map] at hi
    obtain ⟨f, hf1, hf2⟩ := map_some' hi
    simp only [Prod.mk.injEq] at hf2
    obtain ⟨e1, e2, e3⟩ := hf2
    have hlt : i < xs.length := by
      have : i < fs.toList.length := lt_of_get hf1
      rw [hlen]; simpa using this
    have := hf i f (by simpa using hf1)
    rw [List.getElem?_eq_getElem hlt] at this
    refine ⟨by simpa using hlt, xs[i].2, ?_⟩
    rw [← e1, ← e2, ← e3]
    simpa using this
  · cases hs
end
section
variable {H : Type} {enc : TypeId × Value → H} {w : World} {held : Bool} {n : Nat} {cs : List Value} {d : DataW H}
theorem AllR.nil : AllR w [] [] := ⟨rfl, fun i h => by simp at h⟩
theorem AllR.cons {p : PV} {v : Value} {ps : List PV} {vs : List Value} (h : PR (Kw w).R (Kw w).M p v) (hl : AllR w ps vs) : AllR w (p :: ps) (v :: vs) := by
  refine ⟨by simp [hl.1], fun i hi hi' => ?_⟩
  cases i with
  | zero => exact h
  | succ i => exact hl.2 i (by simpa using hi) (by simpa using hi')
theorem AllR.append {ps qs : List PV} {vs us : List Value} (h : AllR w ps vs) (h' : AllR w qs us) : AllR w (ps ++ qs) (vs ++ us) := by
  refine ⟨by simp [h.1, h'.1], fun i hi hi' => ?_⟩
  by_cases hl : i < ps.length
  · have hl' : i < vs.length := by rw [← h.1]; exact hl
    rw [List.getElem_append_left hl, List.getElem_append_left hl']
    exact h.2 i hl hl'
  · have e := h.1
    rw [List.getElem_append_right (by omega), List.getElem_append_right (by omega)]
    have := h'.2 (i - ps.length) (by rw [List.length_append] at hi; omega) (by rw [List.length_append] at hi'; omega)
    simpa only [e] using this
theorem AllR.step (off c : Nat) {ps qs : List PV} (h : AllR w ps ((cs.drop off).take c)) (ht : AllR w qs (cs.drop (off + c))) : AllR w (ps ++ qs) (cs.drop off) := by
  rw [← List.take_append_drop c (cs.drop off), List.drop_drop]
  exact AllR.append h ht
theorem AllR.fin {k : Nat} (h : cs.length = k) : AllR w [] (cs.drop k) := by
  rw [List.drop_eq_nil_of_le (by omega)]
  exact AllR.nil
theorem u_str : Try.prog.underlying 9 = some .string := by kernel_rfl
theorem u_tysR : Try.prog.underlying 25 = some (.slice 27) := by kernel_rfl
theorem rd_int (h : rd enc Try.prog w held n 3 cs d) : ∃ k : Int, AllR w [iv k] cs := by
  obtain ⟨q, h⟩ := h
  obtain ⟨k, rfl, hx, _⟩ := DataW.trod_int u_int h
  exact ⟨k, .cons (.lit _ rfl) .nil⟩
theorem rd_str (h : rd enc Try.prog w held n 9 cs d) : ∃ s : ByteArray, AllR w [sv s] cs := by
  obtain ⟨q, h⟩ := h
  obtain ⟨s, rfl, _, _⟩ := DataW.trod_string u_str h
  exact ⟨s, .cons (.lit _ rfl) .nil⟩
theorem rd_rows {α : Type} (cells : α → List PV) (Q : α → Prop) {t e : TypeId} {sz : Nat} (ht : Try.prog.underlying t = some (.slice e)) (hsz : Try.prog.cellsOf e = sz) (hpos : 0 < sz) (hc : ∀ x, (cells x).length = sz)
    (he : ∀ m cs d, m < n → rd enc Try.prog w held m e cs d → ∃ x, AllR w (cells x) cs ∧ Q x) (h : rd enc Try.prog w held n t cs d) :
    ∃ l : List α, AllR w [.rows (l.map cells)] cs ∧ l.length ≤ maxN ∧ ∀ x ∈ l, Q x := by
  obtain ⟨l, c, rfl, h1, h2, h3⟩ := rd_slice cells Q ht hsz hpos hc he h
  exact ⟨l, .cons h1 .nil, h2, h3⟩
theorem rd_ty : ∀ (n : Nat) (cs : List Value) (d : DataW H), rd enc Try.prog w held n 27 cs d → ∃ v : Ty, AllR w v.cells cs ∧ Fit v := by
  intro n
  induction n using Nat.strongRecOn with
  | _ n ih =>
    intro cs d h
    obtain ⟨ds, m, rfl, rfl, hl, hdl, hf⟩ := rd_struct (l := [(3, 0, 1), (9, 1, 1), (3, 2, 1), (25, 3, 1)]) (by kernel_rfl) h
    have hz : Try.prog.cellsOf 27 = 4 := by kernel_rfl
    rw [hz] at hl
    obtain ⟨_, f0⟩ := hf 0 3 0 1 rfl
    obtain ⟨k, r0⟩ := rd_int f0
    obtain ⟨_, f1⟩ := hf 1 9 1 1 rfl
    obtain ⟨s, r1⟩ := rd_str f1
    obtain ⟨_, f2⟩ := hf 2 3 2 1 rfl
    obtain ⟨n, r2⟩ := rd_int f2
    obtain ⟨_, f3⟩ := hf 3 25 3 1 rfl
    obtain ⟨ks, r3, o3, q3⟩ := rd_rows Ty.cells Fit (sz := 4) u_tysR (by kernel_rfl) (by decide) Ty.cells_len (fun m' cs d hm h => ih m' (by omega) cs d h) f3
    refine ⟨.mk k s n ks, ?_, .mk o3 q3⟩
    rw [Ty.cells_eq]
    exact AllR.step 0 1 r0 (AllR.step 1 1 r1 (AllR.step 2 1 r2 (AllR.step 3 1 r3 (AllR.fin hl))))
theorem Pr.cells_len (p : Pr) : p.cells.length = 8 := by rw [Pr.cells, List.length_append, Ty.cells_len, Ty.cells_len]
theorem u_prsR : Try.prog.underlying 22 = some (.slice 29) := by kernel_rfl
theorem rd_pr (h : rd enc Try.prog w held n 29 cs d) : ∃ p : Pr, AllR w p.cells cs ∧ FitP p := by
  obtain ⟨ds, m, rfl, rfl, hl, hdl, hf⟩ := rd_struct (l := [(27, 0, 4), (27, 4, 4)]) (by kernel_rfl) h
  have hz : Try.prog.cellsOf 29 = 8 := by kernel_rfl
  rw [hz] at hl
  obtain ⟨_, f0⟩ := hf 0 27 0 4 rfl
  obtain ⟨a, r0, o0⟩ := rd_ty _ _ _ f0
  obtain ⟨_, f1⟩ := hf 1 27 4 4 rfl
  obtain ⟨b, r1, o1⟩ := rd_ty _ _ _ f1
  refine ⟨⟨a, b⟩, ?_, o0, o1⟩
  show AllR w (a.cells ++ b.cells) cs
  have := AllR.step 0 4 r0 (AllR.step 4 4 r1 (AllR.fin hl))
  simpa using this
theorem rd_prs (h : rd enc Try.prog w held n 22 cs d) : ∃ l : List Pr, AllR w [prs l] cs ∧ l.length ≤ maxN ∧ ∀ p ∈ l, FitP p :=
  rd_rows Pr.cells FitP (sz := 8) u_prsR (by kernel_rfl) (by decide) Pr.cells_len (fun m cs d _ h => rd_pr h) h
end
end Go.Proofs.Ytnepapfndihalaa
