/- The search for free names: an expression. -/
import Derived.Test.YtkfdklocgpgbfaaBs
import Derived.Deep.QuietTactic
import Derived.Deep.DeepCutAuto
import Derived.Deep.CutBlock
import Derived.Deep.CutRange
import Derived.Deep.RegionHeld3
import Derived.StillTailTactics
import Derived.Deep.AppendLies
import Derived.Deep.RegionLaw
import Derived.Deep.RegionWith
import Derived.Laws.EntriesVeiled
set_option linter.unusedVariables false
set_option linter.unusedSimpArgs false
set_option linter.unusedSectionVars false
namespace Go.Proofs.Ytkfdklocgpgbfaa
open Go.RowKit Go.Deep
theorem srw_new {base : Nat} {w : World} {S : Nat} {vo vb : Value} {out bound : List ByteArray} (h : SrAt base w S vo vb out bound) {P : Nat} (hP : w.heap.size ≤ P) : ¬ SrW S vo vb P := fun hw => by
  rcases hw with rfl | hw | hw
  · have := h.lt; omega
  · have := (h.out.lt P hw).2; omega
  · have := (h.bnd.lt P hw).2; omega
theorem contains_q (v : Value) (l : List ByteArray) (s : ByteArray) (w : World) (hv : NmAt w v l) (hl : l.length ≤ 8000000) :
    Calls Try.prog 40 #[v, .string s] w fun e w' => e = .returned (.bool (hasS s l)) ∧ w' = w := (contains_any v l s w hv hl).mono fun e w' ⟨h1, h2⟩ => ⟨h2, h1⟩
theorem NmAt.drewN {w : World} {v : Value} {l : List ByteArray} (h : NmAt w v l) (n : Nat) : NmAt (w.drewN n) v l := ⟨h.nil, h.cons⟩
theorem own_frm {T : Nat → Prop} {base : Nat} {w w' : World} {e : TypeId} {size : Nat} {v : Value} {n : Nat} {xs : List Value} (h : w.ownsRow base e size v n xs) (hf : Frm T w w') (hn : ∀ k, v.ownBlock = some k → ¬ T k) : w'.ownsRow base e size v n xs := by
  refine ⟨h.1, ?_⟩
  rcases h.2 with h0 | ⟨g, cap, cur, rfl, hb, hgg, rest⟩
  · exact .inl h0
  · exact .inr ⟨g, cap, cur, rfl, hb, by rw [hf.block g (Array.getElem?_eq_some_iff.1 hgg).1 (hn g rfl)]; exact hgg, rest⟩
theorem lt_of_blk {w : World} {P : Nat} {o : Obj} (h : w.heap[P]? = some o) : P < w.heap.size := (Array.getElem?_eq_some_iff.1 h).1
set_option maxHeartbeats 8000000 in
set_option maxRecDepth 100000 in
theorem exp_any (M : Nat → Nat → Option Value) (base n : Nat) (IH : Says M base n) : Says M base (n + 1) := by
  intro e cs S vo vb out bound w hlt ⟨vt, vk, va, vb9, hcs, hvk, hva, hvb⟩ hk h hO hB
  subst hcs
  have HB := SrW.base h
  obtain ⟨OP, hOP⟩ : ∃ OP : Obj, OP = .cells #[.pointer (some ⟨S, 0, none⟩)] 75 := ⟨_, rfl⟩
  obtain ⟨OE, hOE⟩ : ∃ OE : Obj, OE = .cells #[.int .i64 e.kind, .string e.name, .int .i64 e.n, .int .i64 e.t.kind, .string e.t.name, .int .i64 e.t.n, vt, vk, va, vb9, .int .i64 e.at_] 43 := ⟨_, rfl⟩
  have hP : ((w.alloc OP).alloc OE).heap[w.heap.size]? = some OP := by rw [Below.heap_alloc _ _ _ (by simp)]; exact heap_alloc_new w _
  have hE : ((w.alloc OP).alloc OE).heap[w.heap.size + 1]? = some OE := by have := heap_alloc_new (w.alloc OP) OE; simpa using this
  have hA0 := (h.next (frm_alloc w OP)).next (frm_alloc _ OE)
  have hF0 : SrF w ((w.alloc OP).alloc OE) S vo vb vo vb := (SrF.next (frm_alloc w OP)).trans (SrF.next (frm_alloc _ OE))
  have hk0 := hk.frm hF0.frm HB
  have hnP := srw_new h (Nat.le_refl _)
  have hnE := srw_new h (P := w.heap.size + 1) (by omega)
  subst hOP hOE
  go_enter Try.func35, Try.ntmps35
  go_wp2
  generalize ((w.alloc (Obj.cells #[Value.pointer (some { block := S, off := 0 })] 75)).alloc (Obj.cells #[Value.int IntKind.i64 e.kind, Value.string e.name, Value.int IntKind.i64 e.n, Value.int IntKind.i64 e.t.kind, Value.string e.t.name, Value.int IntKind.i64 e.t.n, vt, vk, va, vb9, Value.int IntKind.i64 e.at_] 43)) = W at *
  have HF0 := Lib.hid hF0
  clear hF0
  generalize hPn : w.heap.size = P at *
  generalize hEn : P + 1 = E at *
  have HPn := Lib.hid hPn
  have HEn := Lib.hid hEn
  clear hPn hEn
  go_cut [33] (fun s33 wx => s33 = .bool (decide (e.kind = 3) && !hasS e.name bound && !hasS e.name out) ∧ ∃ m, wx = W.drewN m)
  case first =>
    as_aux_lemma =>
    have cP := cellH (j := 0) hP rfl
    have e0 := cellH (j := 0) hE rfl
    have e1 := cellH (j := 1) hE rfl
    have s0 := hA0.cell0
    have s1 := hA0.cell1
    have nb := own_nm hA0.bnd
    have no := own_nm hA0.out
    have kb := contains_q vb bound e.name
    have ko := contains_q vo out e.name
    by_cases hk3 : e.kind = 3
    · have hk3b : (e.kind == 3) = true := by simp [hk3]
      cases hb1 : hasS e.name bound with
      | true =>
        rw [hb1] at kb
        go_quiet ((first | (go_at_call_of 40 vb; exact Calls.quiet_of_same (kb _ (nb.drewN _) (by omega))) | (go_at_call_of 40 vo; exact Calls.quiet_of_same (ko _ (no.drewN _) (by omega)))))
        go_wp2_with fail
        go_meet
        exact ⟨by simp [hb1], _, rfl⟩
      | false =>
        rw [hb1] at kb
        cases hb2 : hasS e.name out with
        | true =>
          rw [hb2] at ko
          go_quiet ((first | (go_at_call_of 40 vb; exact Calls.quiet_of_same (kb _ (nb.drewN _) (by omega))) | (go_at_call_of 40 vo; exact Calls.quiet_of_same (ko _ (no.drewN _) (by omega)))))
          go_wp2_with fail
          go_meet
          exact ⟨by simp [hb1, hb2], _, rfl⟩
        | false =>
          rw [hb2] at ko
          go_quiet ((first | (go_at_call_of 40 vb; exact Calls.quiet_of_same (kb _ (nb.drewN _) (by omega))) | (go_at_call_of 40 vo; exact Calls.quiet_of_same (ko _ (no.drewN _) (by omega)))))
          go_wp2_with fail
          go_meet
          exact ⟨by simp [hk3, hb1, hb2], _, rfl⟩
    · have hk3b : (e.kind == 3) = false := by simp [hk3]
      go_quiet ((first | (go_at_call_of 40 vb; exact Calls.quiet_of_same (kb _ (nb.drewN _) (by omega))) | (go_at_call_of 40 vo; exact Calls.quiet_of_same (ko _ (no.drewN _) (by omega)))))
      go_wp2_with fail
      go_meet
      exact ⟨by simp [hk3], _, rfl⟩
  case rest =>
    as_aux_lemma =>
    obtain ⟨rfl, m, rfl⟩ := hcut
    have hD : Frm (fun _ => False) W (W.drewN m) := ⟨rfl, rfl, rfl, Nat.le_refl _, fun _ _ _ => rfl⟩
    have hA1 := hA0.next hD
    have hk1 := hk0.frm hD (fun k h => h.elim)
    have HF1 := Lib.hid (HF0.out.trans (SrF.next hD))
    have hP1 : (W.drewN m).heap[P]? = _ := hP
    have hE1 : (W.drewN m).heap[E]? = _ := hE
    clear hA0 hk0 HF0 hP hE hD
    generalize W.drewN m = W1 at *
    go_upto_if 33 with fail
    go_cut [] (fun wx => ∃ vo1, SrAt base wx S vo1 vb (frO e.kind e.name bound out) bound ∧ SrF W1 wx S vo vb vo1 vb)
    case first =>
      as_aux_lemma =>
      have cP := cellH (j := 0) hP1 rfl
      have e1 := cellH (j := 1) hE1 rfl
      have s0 := hA1.cell0
      cases hbb : (decide (e.kind = 3) && !hasS e.name bound && !hasS e.name out) with
      | false =>
        have hfr : frO e.kind e.name bound out = out := by
          unfold frO
          rw [if_neg]
          simpa using hbb
        go_wp2_with fail
        go_meet
        exact ⟨vo, by rw [hfr]; exact hA1, SrF.refl _ _ _ _⟩
      | true =>
        have hfr : frO e.kind e.name bound out = out ++ [e.name] := by
          unfold frO
          rw [if_pos]
          simpa [and_assoc] using hbb
        obtain ⟨i9, hi9, hz0, hz1, hz2⟩ := info_parts info9
        obtain ⟨ao, co, rfl⟩ := own_shape hA1.out
        have f0 := hA1.fz 0
        have lP : P < W1.heap.size := (Array.getElem?_eq_some_iff.1 hP1).1
        have lE : E < W1.heap.size := (Array.getElem?_eq_some_iff.1 hE1).1
        have lS : S < W1.heap.size := hA1.lt
        have nP : some P ≠ Value.ownBlock (.slice ao out.length co) := fun e => hnP (.inr (.inl e.symm))
        have nE : some E ≠ Value.ownBlock (.slice ao out.length co) := fun e => hnE (.inr (.inl e.symm))
        have nS : some S ≠ Value.ownBlock (.slice ao out.length co) := fun e => hA1.no e.symm
        have hFa : Frm (fun _ => False) W1 ((W1.alloc (.cells #[.string e.name] 9)).drew) := ⟨rfl, rfl, rfl, by simp, fun k hk _ => Below.heap_alloc W1 _ k hk⟩
        have hAa := hA1.next hFa
        have hfa := hAa.fz 0
        have hca := hAa.cell0
        have hPa : ((W1.alloc (.cells #[.string e.name] 9)).drew).heap[P]? = some (.cells #[.pointer (some ⟨S, 0, none⟩)] 75 (0, 0)) := by rw [hFa.block P lP id]; exact hP1
        have hcp := cellH (j := 0) hPa rfl
        have hbs : base ≤ W1.heap.size := Nat.le_trans hA1.base (Nat.le_of_lt lS)
        go_wp2_with fail
        go_region_law (first | ((refine step_append_lies _ (by rfl) _ _ _ (by rfl) base 9 i9 _ 1 16 uS hi9 hz0 hz1 hz2 rfl (by decide) (.slice ao out.length co) out.length (sVals out) (by rfl) ((hA1.out.alloc _).drew) ⟨W1.heap.size, 0, none⟩ 1 1 [.string e.name] (by rfl) (by rfl) (World.news_of_block (cs := #[.string e.name]) (t := 9) (fr := (0, 0)) (heap_alloc_new W1 _)) (by simp [Value.oneCell']) (by omega) (by unfold maxLen; omega) (by omega) (by simp; omega) (W1.heap.size + 1) (by simp) ?_; intro gg cap w1 hown1 hgrow hat hlt; have fw1 : w1.frozen? ⟨S, 0, none⟩ = false := (hgrow.frozen_far ⟨S, 0, none⟩ (by simp; omega) nS).trans hfa; have cw1 : w1.cell? ⟨S, 0, none⟩ = some (.slice ao out.length co) := (hgrow.cell_far ⟨S, 0, none⟩ (by simp; omega) nS).trans hca; have cw2 : w1.cell? ⟨P, 0, none⟩ = some (.pointer (some ⟨S, 0, none⟩)) := (hgrow.cell_far ⟨P, 0, none⟩ (by simp; omega) nP).trans hcp)))
        all_goals
          go_wp2_with fail
          go_meet
          obtain ⟨k1, k2⟩ := hAa.putO hgrow (out' := out ++ [e.name]) (by simpa [sVals] using hown1) (fun g hg => by cases hg; rcases hat with h9 | h9; exact .inl h9; exact .inr (by simp; omega))
          exact ⟨_, by rw [hfr]; exact k1, (SrF.next hFa).trans k2⟩
    case rest =>
      as_aux_lemma =>
      obtain ⟨vo1, hA2, hF2⟩ := hcut
      have HB1 := SrW.base hA1
      have hk2 := hk1.frm hF2.frm HB1
      have lP : P < W1.heap.size := (Array.getElem?_eq_some_iff.1 hP1).1
      have lE : E < W1.heap.size := (Array.getElem?_eq_some_iff.1 hE1).1
      have hP2 := hF2.keep hP1 hnP
      have hE2 := hF2.keep hE1 hnE
      have hnP2 := hF2.keepN lP hnP
      have hnE2 := hF2.keepN lE hnE
      have HF2 := Lib.hid (HF1.out.trans hF2)
      have hOl := frO_le e.kind e.name bound out
      obtain ⟨O1, hO1⟩ : ∃ O1, O1 = frO e.kind e.name bound out := ⟨_, rfl⟩
      rw [← hO1] at hA2 hOl
      have HO1 := Lib.hid hO1
      clear hF2 HF1 hA1 hk1 HB1 hP1 hE1 lP lE hnP hnE hO1
      have hte := e.tot_eq
      have hbB : base ≤ wc.heap.size := Nat.le_trans hA2.base (Nat.le_of_lt hA2.lt)
      obtain ⟨ba, bcap, rfl, hat⟩ := bds_at hk2 hvb
      clear hat
      have c9 := cellH (j := 9) hE2 rfl
      have hbl := Bd.totL_len e.binds
      go_wp2
      clear c9
      generalize hBc : wc.heap.size = B at *
      have HBc := Lib.hid hBc
      have hBle : B ≤ wc.heap.size := Nat.le_of_eq hBc.symm
      clear hBc
      go_loopg [4, 48] e.binds.length (fun g o i wi => ∃ q : Nat, i = .int .i64 (q : Int) ∧ q ≤ e.binds.length ∧ g = e.binds.length - q ∧ wi.ownsRow B 9 1 o ((e.binds.take q).map Bd.name).length (sVals ((e.binds.take q).map Bd.name)) ∧ Below B wc wi)
      case atStart => exact ⟨0, rfl, Nat.zero_le _, rfl, World.ownsRow_nil _ _ _ _, Below.refl _ _⟩
      case round =>
        as_aux_lemma =>
        obtain ⟨q, rfl, hq, rfl, ho, hb⟩ := hrel
        have hBr : B ≤ wr.heap.size := Nat.le_trans hBle hb.size
        by_cases hql : q < e.binds.length
        · have hql' : (q : Int) < e.binds.length := by omega
          obtain ⟨x, hx⟩ : ∃ x, e.binds[q]? = some x := ⟨_, List.getElem?_eq_getElem hql⟩
          have hkr : Kept M base wr := hk2.below hb hbB
          obtain ⟨a', cap', hav, hat⟩ := bds_at hkr hvb
          cases hav
          obtain ⟨g, off, vt', vk', va', vb2, rfl, ⟨t1, t2, t3, rfl⟩, ⟨k1, k2, k3, rfl⟩, ⟨a1, a2, a3, rfl⟩, ⟨b1, b2, b3, rfl⟩, _, _, _, d0, d1, d2, d3, d4, d5, d6, d7, d8, d9, d10, d11, d12⟩ := hat q x hx
          have htk : (e.binds.take (q + 1)).map Bd.name = (e.binds.take q).map Bd.name ++ [x.name] := by rw [List.take_add_one, hx]; simp
          have HT := Lib.hid htk
          have hml : ((e.binds.take q).map Bd.name).length ≤ e.binds.length := by simp; omega
          clear hat hx htk
          obtain ⟨ys, hys⟩ : ∃ ys, ys = (e.binds.take q).map Bd.name := ⟨_, rfl⟩
          rw [← hys] at ho HT hml
          clear hys
          obtain ⟨ao, co, rfl⟩ := own_shape ho
          have e0 := wr2 (n := q) (by omega)
          have hoa := (ho.alloc (.cells #[.string x.name, .int .i64 x.e.kind, .string x.e.name, .int .i64 x.e.n, .int .i64 x.e.t.kind, .string x.e.t.name, .int .i64 x.e.t.n, .slice t1 t2 t3, .slice k1 k2 k3, .slice a1 a2 a3, .slice b1 b2 b3, .int .i64 x.e.at_, .int .i64 x.at_] 45)).alloc (.cells #[.string x.name] 9)
          have hba := (hb.alloc hBr (.cells #[.string x.name, .int .i64 x.e.kind, .string x.e.name, .int .i64 x.e.n, .int .i64 x.e.t.kind, .string x.e.t.name, .int .i64 x.e.t.n, .slice t1 t2 t3, .slice k1 k2 k3, .slice a1 a2 a3, .slice b1 b2 b3, .int .i64 x.e.at_, .int .i64 x.at_] 45)).alloc (Nat.le_trans hBle (hb.alloc hBr (.cells #[.string x.name, .int .i64 x.e.kind, .string x.e.name, .int .i64 x.e.n, .int .i64 x.e.t.kind, .string x.e.t.name, .int .i64 x.e.t.n, .slice t1 t2 t3, .slice k1 k2 k3, .slice a1 a2 a3, .slice b1 b2 b3, .int .i64 x.e.at_, .int .i64 x.at_] 45)).size) (.cells #[.string x.name] 9)
          have hsa := Nat.le_trans hBle hba.size
          go_wp2_with (at_builtin; refine wpList_app (base := B) (v := .slice ao ys.length co) (xs := ys) (names := [x.name]) (vn := .slice (some ⟨wr.heap.size + 1, 0, none⟩) 1 1) rfl _ _ rfl rfl rfl rfl hoa ⟨fun h => (by cases h), fun _ => ⟨_, _, rfl, fun j s hs => lit_one _ _ (by simp) hs⟩⟩ (by simp; omega) hsa ?_; intro v3 w3 ho3 hg3 hat3; have hb3 := hba.grown hg3 hsa (fun k hk => own_old hoa hk))
          go_roundg (e.binds.length - (q + 1))
          case measure => omega
          case rel => exact ⟨q + 1, congrArg (Value.int .i64) (by omega), by omega, rfl, by rw [HT.out]; simpa using ho3, hb3⟩
        · have hqe : q = e.binds.length := by omega
          subst hqe
          have hql' : ¬ (e.binds.length : Int) < e.binds.length := by omega
          rw [List.take_length] at ho
          have hfr : Frm (fun _ => False) wc wr := frm_below (by rw [HBc.out]; exact hb)
          have hA3 := hA2.next hfr
          have hk3 := hk2.frm hfr (fun k h => h.elim)
          have hP3 : wr.heap[P]? = some (.cells #[.pointer (some ⟨S, 0, none⟩)] 75 (0, 0)) := by rw [hfr.block P (Array.getElem?_eq_some_iff.1 hP2).1 id]; exact hP2
          have hE3 : wr.heap[E]? = some (.cells #[.int .i64 e.kind, .string e.name, .int .i64 e.n, .int .i64 e.t.kind, .string e.t.name, .int .i64 e.t.n, vt, vk, va, .slice ba e.binds.length bcap, .int .i64 e.at_] 43 (0, 0)) := by rw [hfr.block E (Array.getElem?_eq_some_iff.1 hE2).1 id]; exact hE2
          have HF3 := Lib.hid (HF2.out.trans (SrF.next (S := S) (vo := vo1) (vb := vb) hfr))
          have hob : ∀ k, Value.ownBlock u4 = some k → ¬ SrW S vo1 vb k := fun k hk => srw_new hA2 (by have h1 := own_old ho hk; have h2 := HBc.out; omega)
          have hbl' := hbl
          clear hA2 hk2 hP2 hE2 HF2 hfr hb hBr
          obtain ⟨names, hnames⟩ : ∃ names, names = e.binds.map Bd.name := ⟨_, rfl⟩
          have hnl : names.length = e.binds.length := by rw [hnames, List.length_map]
          rw [← hnames] at ho
          have HNM := Lib.hid hnames
          clear hnames
          have ho4 := (ho.alloc (.cells #[(.func (.func 41) #[] #[.pointer (some ⟨E, 0, none⟩), .pointer (some ⟨P, 0, none⟩)])] 1)).alloc (.cells #[(.func (.func 42) #[] #[.pointer (some ⟨P, 0, none⟩), .pointer (some ⟨E, 0, none⟩)])] 1)
          have hfa : Frm (fun _ => False) wr ((wr.alloc (.cells #[(.func (.func 41) #[] #[.pointer (some ⟨E, 0, none⟩), .pointer (some ⟨P, 0, none⟩)])] 1)).alloc (.cells #[(.func (.func 42) #[] #[.pointer (some ⟨P, 0, none⟩), .pointer (some ⟨E, 0, none⟩)])] 1)) := (frm_alloc wr (.cells #[(.func (.func 41) #[] #[.pointer (some ⟨E, 0, none⟩), .pointer (some ⟨P, 0, none⟩)])] 1)).trans (frm_alloc _ (.cells #[(.func (.func 42) #[] #[.pointer (some ⟨P, 0, none⟩), .pointer (some ⟨E, 0, none⟩)])] 1)) (fun _ _ h => h)
          have hA4 := hA3.next hfa
          have hk4 := hk3.frm hfa (fun k h => h.elim)
          have hP4 : ((wr.alloc (.cells #[(.func (.func 41) #[] #[.pointer (some ⟨E, 0, none⟩), .pointer (some ⟨P, 0, none⟩)])] 1)).alloc (.cells #[(.func (.func 42) #[] #[.pointer (some ⟨P, 0, none⟩), .pointer (some ⟨E, 0, none⟩)])] 1)).heap[P]? = some (.cells #[.pointer (some ⟨S, 0, none⟩)] 75 (0, 0)) := by rw [hfa.block P (Array.getElem?_eq_some_iff.1 hP3).1 id]; exact hP3
          have hE4 : ((wr.alloc (.cells #[(.func (.func 41) #[] #[.pointer (some ⟨E, 0, none⟩), .pointer (some ⟨P, 0, none⟩)])] 1)).alloc (.cells #[(.func (.func 42) #[] #[.pointer (some ⟨P, 0, none⟩), .pointer (some ⟨E, 0, none⟩)])] 1)).heap[E]? = some (.cells #[.int .i64 e.kind, .string e.name, .int .i64 e.n, .int .i64 e.t.kind, .string e.t.name, .int .i64 e.t.n, vt, vk, va, .slice ba e.binds.length bcap, .int .i64 e.at_] 43 (0, 0)) := by rw [hfa.block E (Array.getElem?_eq_some_iff.1 hE3).1 id]; exact hE3
          have h74 : ((wr.alloc (.cells #[(.func (.func 41) #[] #[.pointer (some ⟨E, 0, none⟩), .pointer (some ⟨P, 0, none⟩)])] 1)).alloc (.cells #[(.func (.func 42) #[] #[.pointer (some ⟨P, 0, none⟩), .pointer (some ⟨E, 0, none⟩)])] 1)).heap[wr.heap.size]? = some (.cells #[(.func (.func 41) #[] #[.pointer (some ⟨E, 0, none⟩), .pointer (some ⟨P, 0, none⟩)])] 1) := by rw [Below.heap_alloc _ _ _ (by simp)]; exact heap_alloc_new wr _
          have h84 : ((wr.alloc (.cells #[(.func (.func 41) #[] #[.pointer (some ⟨E, 0, none⟩), .pointer (some ⟨P, 0, none⟩)])] 1)).alloc (.cells #[(.func (.func 42) #[] #[.pointer (some ⟨P, 0, none⟩), .pointer (some ⟨E, 0, none⟩)])] 1)).heap[wr.heap.size + 1]? = some (.cells #[(.func (.func 42) #[] #[.pointer (some ⟨P, 0, none⟩), .pointer (some ⟨E, 0, none⟩)])] 1) := by have := heap_alloc_new (wr.alloc (.cells #[(.func (.func 41) #[] #[.pointer (some ⟨E, 0, none⟩), .pointer (some ⟨P, 0, none⟩)])] 1)) (.cells #[(.func (.func 42) #[] #[.pointer (some ⟨P, 0, none⟩), .pointer (some ⟨E, 0, none⟩)])] 1); simpa using this
          have hn7 := srw_new hA3 (Nat.le_refl wr.heap.size)
          have hn8 := srw_new hA3 (P := wr.heap.size + 1) (by omega)
          have HF4 := Lib.hid (HF3.out.trans (SrF.next (S := S) (vo := vo1) (vb := vb) hfa))
          clear hA3 hk3 hP3 hE3 HF3 hfa ho
          go_upto_block 2 with fail
          generalize ((wr.alloc (.cells #[(.func (.func 41) #[] #[.pointer (some ⟨E, 0, none⟩), .pointer (some ⟨P, 0, none⟩)])] 1)).alloc (.cells #[(.func (.func 42) #[] #[.pointer (some ⟨P, 0, none⟩), .pointer (some ⟨E, 0, none⟩)])] 1)) = W4 at *
          generalize hB7 : wr.heap.size = B7 at *
          generalize hB8 : B7 + 1 = B8 at *
          clear hB7 hB8
          go_cut [] (fun wx => ∃ vo2 vb2, SrAt base wx S vo2 vb2 (if e.kind = 7 then (if e.n = 1 then Ex.frL e.kids (bound ++ names) (Bd.frL e.binds (bound ++ names) O1) else Ex.frL e.kids (bound ++ names) (Bd.frL e.binds bound O1)) else if e.kind = 6 then Bd.frL e.binds bound (Ex.frL e.kids (bound ++ [e.name]) O1) else Bd.frL e.binds bound (Ex.frL e.kids bound O1)) bound ∧ SrF W4 wx S vo1 vb vo2 vb2)
          case first =>
            as_aux_lemma =>
            have ck := cellH (j := 0) hE4 rfl
            have cn := cellH (j := 2) hE4 rfl
            have cs1 := cellH (j := 1) hE4 rfl
            have c7 := cellH (j := 0) h74 rfl
            have c8 := cellH (j := 0) h84 rfl
            have cP := cellH (j := 0) hP4 rfl
            have HB4 := SrW.base hA4
            have lP4 := lt_of_blk hP4
            have lE4 := lt_of_blk hE4
            have l74 := lt_of_blk h74
            have l84 := lt_of_blk h84
            have en45 := fun (a : Array Value) (W : World) => enter_of Try.func45 (by kernel_rfl) rfl a W
            have en42 := fun (a : Array Value) (W : World) => enter_of Try.func42 (by kernel_rfl) rfl a W
            have hnm4 := own_nm ho4
            have EN45 := Lib.hid en45
            have EN42 := Lib.hid en42
            clear en45 en42
            by_cases hk7 : e.kind = 7
            · have hk7b : (e.kind == 7) = true := by simp [hk7]
              have HK7 := Lib.hid hk7
              clear hk7
              by_cases hn1 : e.n = 1
              · have hn1b : (e.n == 1) = true := by simp [hn1]
                have HN1 := Lib.hid hn1
                clear hn1
                have hu := under_any base S u4 vo1 vb O1 bound names (Ex.frL e.kids (bound ++ names) (Bd.frL e.binds (bound ++ names) O1)) 45 #[.pointer (some ⟨B7, 0, none⟩), .pointer (some ⟨B8, 0, none⟩)] W4 hA4 hnm4 (by omega) (EN45.out _) (fun W v1 hA hF => exp3_any M base n IH e.binds e.kids _ _ (by omega) hvb hvk S P E B7 B8 _ vo1 v1 O1 (bound ++ names) W (hk4.frm hF.frm HB4) hA (hF.keep hP4 hnP2) (hF.keepN lP4 hnP2) (hF.keep hE4 hnE2) (hF.keepN lE4 hnE2) rfl rfl (hF.keep h74 hn7) (hF.keep h84 hn8) (hF.keepN l84 hn8) (by omega) (by rw [List.length_append]; omega))
                go_wp2_with (first | (go_at_call 44; refine hu.mono ?_; rintro e' W5 ⟨rfl, vo5, vb5, hA5, hF5⟩))
                go_meet
                exact ⟨vo5, vb5, by rw [if_pos HK7.out, if_pos HN1.out]; exact hA5, hF5⟩
              · have hn1b : (e.n == 1) = false := by simp [hn1]
                have h41 := exp1_any M base n IH e.binds _ (by omega) hvb S P E _ vo1 vb O1 bound W4 hk4 hA4 hP4 hnP2 hE4 rfl (by omega) (by omega)
                have hle1 := Bd.frL_le e.binds bound O1
                go_wp2_with (first | (go_at_call 41; refine h41.mono ?_; rintro e' W5 ⟨rfl, vo5, vb5, hA5, hF5⟩; have q8 := cellH (j := 0) (hF5.keep h84 hn8) rfl; have qP := cellH (j := 0) (hF5.keep hP4 hnP2) rfl; have hnm5 := own_nm (own_frm ho4 hF5.frm hob); have hk5 := hk4.frm hF5.frm HB4; have hu := under_any base S u4 vo5 vb5 _ bound names (Ex.frL e.kids (bound ++ names) (Bd.frL e.binds bound O1)) 42 #[.pointer (some ⟨P, 0, none⟩), .pointer (some ⟨E, 0, none⟩)] W5 hA5 hnm5 (by omega) (EN42.out _) (fun W v1 hA hF => exp2_any M base n IH e.kids _ (by omega) hvk S P E _ vo5 v1 (Bd.frL e.binds bound O1) (bound ++ names) W (hk5.frm hF.frm (SrW.base hA5)) hA (hF.keep (hF5.keep hP4 hnP2) (hF5.keepN lP4 hnP2)) (hF.keep (hF5.keep hE4 hnE2) (hF5.keepN lE4 hnE2)) rfl (by omega) (by rw [List.length_append]; omega)); clear h41 c8 cP c7 ck cn cs1) | (go_at_call 44; refine hu.mono ?_; rintro e' W6 ⟨rfl, vo6, vb6, hA6, hF6⟩))
                go_meet
                exact ⟨vo6, vb6, by rw [if_pos HK7.out, if_neg hn1]; exact hA6, hF5.trans hF6⟩
            · have hk7b : (e.kind == 7) = false := by simp [hk7]
              by_cases hk6 : e.kind = 6
              · have hk6b : (e.kind == 6) = true := by simp [hk6]
                have HK6 := Lib.hid hk6
                clear hk6
                have hfl := frm_alloc W4 (.cells #[.string e.name] 9)
                have hAl := hA4.next hfl
                have hkl := hk4.frm hfl (fun k h => h.elim)
                have hPl : (W4.alloc (.cells #[.string e.name] 9)).heap[P]? = some (.cells #[.pointer (some ⟨S, 0, none⟩)] 75 (0, 0)) := by rw [hfl.block P lP4 id]; exact hP4
                have hEl : (W4.alloc (.cells #[.string e.name] 9)).heap[E]? = some (.cells #[.int .i64 e.kind, .string e.name, .int .i64 e.n, .int .i64 e.t.kind, .string e.t.name, .int .i64 e.t.n, vt, vk, va, .slice ba e.binds.length bcap, .int .i64 e.at_] 43 (0, 0)) := by rw [hfl.block E lE4 id]; exact hE4
                have h7l : (W4.alloc (.cells #[.string e.name] 9)).heap[B7]? = some (.cells #[(.func (.func 41) #[] #[.pointer (some ⟨E, 0, none⟩), .pointer (some ⟨P, 0, none⟩)])] 1 (0, 0)) := by rw [hfl.block B7 l74 id]; exact h74
                have lPl := lt_of_blk hPl
                have hu := under_any base S (.slice (some ⟨W4.heap.size, 0, none⟩) 1 1) vo1 vb O1 bound [e.name] (Ex.frL e.kids (bound ++ [e.name]) O1) 42 #[.pointer (some ⟨P, 0, none⟩), .pointer (some ⟨E, 0, none⟩)] _ hAl ⟨fun h => (by cases h), fun _ => ⟨_, _, rfl, fun j s hs => lit_one _ _ rfl hs⟩⟩ (by simp; omega) (EN42.out _) (fun W v1 hA hF => exp2_any M base n IH e.kids _ (by omega) hvk S P E _ vo1 v1 O1 (bound ++ [e.name]) W (hkl.frm hF.frm HB4) hA (hF.keep hPl hnP2) (hF.keep hEl hnE2) rfl (by omega) (by simp; omega))
                have hle1 := Ex.frL_le e.kids (bound ++ [e.name]) O1
                have hFl := SrF.next (S := S) (vo := vo1) (vb := vb) hfl
                go_wp2_with (first | (go_at_call 44; refine hu.mono ?_; rintro e' W5 ⟨rfl, vo5, vb5, hA5, hF5⟩; have q7 := cellH (j := 0) (hF5.keep h7l hn7) rfl; have hk5 := hkl.frm hF5.frm HB4; have h41 := exp1_any M base n IH e.binds _ (by omega) hvb S P E _ vo5 vb5 _ bound W5 hk5 hA5 (hF5.keep hPl hnP2) (hF5.keepN lPl hnP2) (hF5.keep hEl hnE2) rfl (by omega) (by omega); clear hu c7 c8 cP ck cn cs1) | (go_at_call 41; refine h41.mono ?_; rintro e' W6 ⟨rfl, vo6, vb6, hA6, hF6⟩))
                go_meet
                exact ⟨vo6, vb6, by rw [if_neg hk7, if_pos HK6.out]; exact hA6, hFl.trans (hF5.trans hF6)⟩
              · have hk6b : (e.kind == 6) = false := by simp [hk6]
                have h42 := exp2_any M base n IH e.kids _ (by omega) hvk S P E _ vo1 vb O1 bound W4 hk4 hA4 hP4 hE4 rfl (by omega) (by omega)
                have hle1 := Ex.frL_le e.kids bound O1
                go_wp2_with (first | (go_at_call 42; refine h42.mono ?_; rintro e' W5 ⟨rfl, vo5, vb5, hA5, hF5⟩; have q7 := cellH (j := 0) (hF5.keep h74 hn7) rfl; have hk5 := hk4.frm hF5.frm HB4; have h41 := exp1_any M base n IH e.binds _ (by omega) hvb S P E _ vo5 vb5 _ bound W5 hk5 hA5 (hF5.keep hP4 hnP2) (hF5.keepN lP4 hnP2) (hF5.keep hE4 hnE2) rfl (by omega) (by omega); clear h42 c7 c8 cP ck cn cs1) | (go_at_call 41; refine h41.mono ?_; rintro e' W6 ⟨rfl, vo6, vb6, hA6, hF6⟩))
                go_meet
                exact ⟨vo6, vb6, by rw [if_neg hk7, if_neg hk6]; exact hA6, hF5.trans hF6⟩
          case rest =>
            as_aux_lemma =>
            obtain ⟨vo2, vb2, hA5, hF5⟩ := hcut
            obtain ⟨aa, acap, rfl, hat⟩ := als_at hk4 hva
            clear hat
            have hk5 := hk4.frm hF5.frm (SrW.base hA4)
            have hP5 := hF5.keep hP4 hnP2
            have hE5 := hF5.keep hE4 hnE2
            have hnP5 := hF5.keepN (lt_of_blk hP4) hnP2
            have HF5 := Lib.hid (HF4.out.trans hF5)
            have hO2l : (if e.kind = 7 then (if e.n = 1 then Ex.frL e.kids (bound ++ names) (Bd.frL e.binds (bound ++ names) O1) else Ex.frL e.kids (bound ++ names) (Bd.frL e.binds bound O1)) else if e.kind = 6 then Bd.frL e.binds bound (Ex.frL e.kids (bound ++ [e.name]) O1) else Bd.frL e.binds bound (Ex.frL e.kids bound O1)).length ≤ O1.length + (Ex.totL e.kids + Bd.totL e.binds) := by
              split
              · split
                · have h1 := Ex.frL_le e.kids (bound ++ names) (Bd.frL e.binds (bound ++ names) O1); have h2 := Bd.frL_le e.binds (bound ++ names) O1; omega
                · have h1 := Ex.frL_le e.kids (bound ++ names) (Bd.frL e.binds bound O1); have h2 := Bd.frL_le e.binds bound O1; omega
              · split
                · have h1 := Bd.frL_le e.binds bound (Ex.frL e.kids (bound ++ [e.name]) O1); have h2 := Ex.frL_le e.kids (bound ++ [e.name]) O1; omega
                · have h1 := Bd.frL_le e.binds bound (Ex.frL e.kids bound O1); have h2 := Ex.frL_le e.kids bound O1; omega
            obtain ⟨O2, hO2⟩ : ∃ O2, O2 = (if e.kind = 7 then (if e.n = 1 then Ex.frL e.kids (bound ++ names) (Bd.frL e.binds (bound ++ names) O1) else Ex.frL e.kids (bound ++ names) (Bd.frL e.binds bound O1)) else if e.kind = 6 then Bd.frL e.binds bound (Ex.frL e.kids (bound ++ [e.name]) O1) else Bd.frL e.binds bound (Ex.frL e.kids bound O1)) := ⟨_, rfl⟩
            rw [← hO2] at hA5 hO2l
            have HO2 := Lib.hid hO2
            clear hO2 hF5 hA4 hk4 hP4 hE4 h74 h84 hn7 hn8 ho4 hob HF4
            have c8 := cellH (j := 8) hE5 rfl
            have hal := Al.totL_len e.alts
            have HB5 := SrW.base hA5
            go_wp2
            clear c8
            go_loopg [102] e.alts.length (fun g i wi => ∃ (q : Nat) (vo' vb' : Value), i = .int .i64 (q : Int) ∧ q ≤ e.alts.length ∧ g = e.alts.length - q ∧ SrAt base wi S vo' vb' (Al.frL (e.alts.take q) bound O2) bound ∧ SrF wc wi S vo2 vb2 vo' vb')
            case atStart => exact ⟨0, vo2, vb2, rfl, Nat.zero_le _, rfl, by rw [List.take_zero, Al.frL]; exact hA5, SrF.refl _ _ _ _⟩
            case round =>
              as_aux_lemma =>
              obtain ⟨q, vo', vb', rfl, hq, rfl, hA, hF⟩ := hrel
              have hki : Kept M base wr := hk5.frm hF.frm HB5
              have hPr := hF.keep hP5 hnP5
              have hnPr := hF.keepN (lt_of_blk hP5) hnP5
              by_cases hql : q < e.alts.length
              · have hql' : (q : Int) < e.alts.length := by omega
                obtain ⟨x, hx⟩ : ∃ x, e.alts[q]? = some x := ⟨_, List.getElem?_eq_getElem hql⟩
                obtain ⟨a', cap', hav, hat⟩ := als_at hki hva
                cases hav
                obtain ⟨g, off, vt', vk', va', vb3, vp, rfl, ⟨t1, t2, t3, rfl⟩, ⟨k1, k2, k3, rfl⟩, ⟨a1, a2, a3, rfl⟩, ⟨b1, b2, b3, rfl⟩, ⟨p1, p2, p3, rfl⟩, hvp, hvk', hva', hvb', d0, d1, d2, d3, d4, d5, d6, d7, d8, d9, d10, d11, d12, d13, d14, d15⟩ := hat q x hx
                obtain ⟨hst, htt⟩ := Al.frL_step e.alts hx bound O2
                have hle := Al.frL_le (e.alts.take q) bound O2
                have HS := Lib.hid hst
                have hnl2 := Pt.nms_le x.p
                clear hat hx hst
                have e0 := wr2 (n := q) (by omega)
                obtain ⟨O, hO9⟩ : ∃ O, O = Al.frL (e.alts.take q) bound O2 := ⟨_, rfl⟩
                rw [← hO9] at hA hle HS
                clear hO9
                have hfw : Frm (fun _ => False) wr ((wr.alloc (.cells #[.int .i64 x.p.kind, .string x.p.name, .int .i64 x.p.n, .slice p1 p2 p3, .int .i64 x.p.at_, .int .i64 x.e.kind, .string x.e.name, .int .i64 x.e.n, .int .i64 x.e.t.kind, .string x.e.t.name, .int .i64 x.e.t.n, .slice t1 t2 t3, .slice k1 k2 k3, .slice a1 a2 a3, .slice b1 b2 b3, .int .i64 x.e.at_] 70)).drew) := ⟨rfl, rfl, rfl, by simp, fun k hk _ => Below.heap_alloc wr _ k hk⟩
                have hAw := hA.next hfw
                have hkw := hki.frm hfw (fun k h => h.elim)
                have hPw : ((wr.alloc (.cells #[.int .i64 x.p.kind, .string x.p.name, .int .i64 x.p.n, .slice p1 p2 p3, .int .i64 x.p.at_, .int .i64 x.e.kind, .string x.e.name, .int .i64 x.e.n, .int .i64 x.e.t.kind, .string x.e.t.name, .int .i64 x.e.t.n, .slice t1 t2 t3, .slice k1 k2 k3, .slice a1 a2 a3, .slice b1 b2 b3, .int .i64 x.e.at_] 70)).drew).heap[P]? = some (.cells #[.pointer (some ⟨S, 0, none⟩)] 75 (0, 0)) := by rw [hfw.block P (lt_of_blk hPr) id]; exact hPr
                have hXw : ((wr.alloc (.cells #[.int .i64 x.p.kind, .string x.p.name, .int .i64 x.p.n, .slice p1 p2 p3, .int .i64 x.p.at_, .int .i64 x.e.kind, .string x.e.name, .int .i64 x.e.n, .int .i64 x.e.t.kind, .string x.e.t.name, .int .i64 x.e.t.n, .slice t1 t2 t3, .slice k1 k2 k3, .slice a1 a2 a3, .slice b1 b2 b3, .int .i64 x.e.at_] 70)).drew).heap[wr.heap.size]? = some (.cells #[.int .i64 x.p.kind, .string x.p.name, .int .i64 x.p.n, .slice p1 p2 p3, .int .i64 x.p.at_, .int .i64 x.e.kind, .string x.e.name, .int .i64 x.e.n, .int .i64 x.e.t.kind, .string x.e.t.name, .int .i64 x.e.t.n, .slice t1 t2 t3, .slice k1 k2 k3, .slice a1 a2 a3, .slice b1 b2 b3, .int .i64 x.e.at_] 70 (0, 0)) := heap_alloc_new wr _
                have hnX := srw_new hA (Nat.le_refl wr.heap.size)
                have hFw := hF.trans (SrF.next (S := S) (vo := vo') (vb := vb') hfw)
                have hbw : base ≤ ((wr.alloc (.cells #[.int .i64 x.p.kind, .string x.p.name, .int .i64 x.p.n, .slice p1 p2 p3, .int .i64 x.p.at_, .int .i64 x.e.kind, .string x.e.name, .int .i64 x.e.n, .int .i64 x.e.t.kind, .string x.e.t.name, .int .i64 x.e.t.n, .slice t1 t2 t3, .slice k1 k2 k3, .slice a1 a2 a3, .slice b1 b2 b3, .int .i64 x.e.at_] 70)).drew).heap.size := Nat.le_trans hAw.base (Nat.le_of_lt hAw.lt)
                have h46 := names_any M base (x.p.tot + 1) x.p #[.int .i64 x.p.kind, .string x.p.name, .int .i64 x.p.n, .slice p1 p2 p3, .int .i64 x.p.at_] _ (by omega) ⟨_, rfl, hvp⟩ hkw hbw (by omega)
                have en47 := fun (a : Array Value) (W : World) => enter_of Try.func47 (by kernel_rfl) rfl a W
                have EN47 := Lib.hid en47
                have cPw := cellH (j := 0) hPw rfl
                have hu := fun (w2 : World) (v2 : Value) (hnm : NmAt w2 v2 x.p.nms) (hb2 : Below ((wr.alloc (.cells #[.int .i64 x.p.kind, .string x.p.name, .int .i64 x.p.n, .slice p1 p2 p3, .int .i64 x.p.at_, .int .i64 x.e.kind, .string x.e.name, .int .i64 x.e.n, .int .i64 x.e.t.kind, .string x.e.t.name, .int .i64 x.e.t.n, .slice t1 t2 t3, .slice k1 k2 k3, .slice a1 a2 a3, .slice b1 b2 b3, .int .i64 x.e.at_] 70)).drew).heap.size ((wr.alloc (.cells #[.int .i64 x.p.kind, .string x.p.name, .int .i64 x.p.n, .slice p1 p2 p3, .int .i64 x.p.at_, .int .i64 x.e.kind, .string x.e.name, .int .i64 x.e.n, .int .i64 x.e.t.kind, .string x.e.t.name, .int .i64 x.e.t.n, .slice t1 t2 t3, .slice k1 k2 k3, .slice a1 a2 a3, .slice b1 b2 b3, .int .i64 x.e.at_] 70)).drew) w2) =>
                  under_any base S v2 vo' vb' O bound x.p.nms (x.e.fr (bound ++ x.p.nms) O) 47 #[.pointer (some ⟨P, 0, none⟩), .pointer (some ⟨wr.heap.size, 0, none⟩)] w2 (hAw.next (frm_below hb2)) hnm (by omega) (EN47.out _) (fun W v1 hA8 hF8 =>
                    exp4_any base S P wr.heap.size vo' v1 _ (bound ++ x.p.nms) #[.int .i64 x.p.kind, .string x.p.name, .int .i64 x.p.n, .slice p1 p2 p3, .int .i64 x.p.at_, .int .i64 x.e.kind, .string x.e.name, .int .i64 x.e.n, .int .i64 x.e.t.kind, .string x.e.t.name, .int .i64 x.e.t.n, .slice t1 t2 t3, .slice k1 k2 k3, .slice a1 a2 a3, .slice b1 b2 b3, .int .i64 x.e.at_] _ _ _ _ _ _ _ _ _ _ _ W (hF8.keep (by rw [hb2.block P (lt_of_blk hPw)]; exact hPw) hnPr) (hF8.keep (by rw [hb2.block wr.heap.size (lt_of_blk hXw)]; exact hXw) hnX) rfl rfl rfl rfl rfl rfl rfl rfl rfl rfl rfl
                      (IH x.e #[.int .i64 x.e.kind, .string x.e.name, .int .i64 x.e.n, .int .i64 x.e.t.kind, .string x.e.t.name, .int .i64 x.e.t.n, .slice t1 t2 t3, .slice k1 k2 k3, .slice a1 a2 a3, .slice b1 b2 b3, .int .i64 x.e.at_] S vo' v1 O (bound ++ x.p.nms) W (by omega) ⟨_, _, _, _, rfl, hvk', hva', hvb'⟩ ((hkw.below hb2 hbw).frm hF8.frm (SrW.base (hAw.next (frm_below hb2)))) hA8 (by omega) (by rw [List.length_append]; omega)))
                have hcp2 := fun (w2 : World) (hb2 : Below ((wr.alloc (.cells #[.int .i64 x.p.kind, .string x.p.name, .int .i64 x.p.n, .slice p1 p2 p3, .int .i64 x.p.at_, .int .i64 x.e.kind, .string x.e.name, .int .i64 x.e.n, .int .i64 x.e.t.kind, .string x.e.t.name, .int .i64 x.e.t.n, .slice t1 t2 t3, .slice k1 k2 k3, .slice a1 a2 a3, .slice b1 b2 b3, .int .i64 x.e.at_] 70)).drew).heap.size ((wr.alloc (.cells #[.int .i64 x.p.kind, .string x.p.name, .int .i64 x.p.n, .slice p1 p2 p3, .int .i64 x.p.at_, .int .i64 x.e.kind, .string x.e.name, .int .i64 x.e.n, .int .i64 x.e.t.kind, .string x.e.t.name, .int .i64 x.e.t.n, .slice t1 t2 t3, .slice k1 k2 k3, .slice a1 a2 a3, .slice b1 b2 b3, .int .i64 x.e.at_] 70)).drew) w2) => cellH (j := 0) (w := w2) (by rw [hb2.block P (lt_of_blk hPw)]; exact hPw) rfl
                clear en47
                go_upto_region 24 with fail
                go_region_with (first | (go_at_call 46; refine h46.mono ?_; rintro e' w2 ⟨v2, rfl, hnm, hb2⟩; have cP2 := hcp2 w2 hb2; have huw := hu w2 v2 hnm hb2) | (go_at_call 44; refine huw.mono ?_; rintro e' w8 ⟨rfl, vo8, vb8, hA8, hF8⟩))
                all_goals
                  go_wp2_with fail
                  go_roundg (e.alts.length - (q + 1))
                  case measure => omega
                  case rel => exact ⟨q + 1, vo8, vb8, congrArg (Value.int .i64) (by omega), by omega, rfl, by rw [HS.out]; exact hA8, hFw.trans ((SrF.next (frm_below hb2)).trans hF8)⟩
              · have hqe : q = e.alts.length := by omega
                subst hqe
                have hql' : ¬ (e.alts.length : Int) < e.alts.length := by omega
                rw [List.take_length] at hA
                have hfin : Al.frL e.alts bound O2 = e.fr bound out := by
                  rw [HO2.out, HO1.out, HNM.out]
                  cases e
                  rw [Ex.fr]
                  rfl
                rw [hfin] at hA
                have HFin := Lib.hid (HF5.out.trans hF)
                go_wp2
                go_returns
                exact ⟨rfl, _, _, hA, HFin.out⟩
theorem says_all (M : Nat → Nat → Option Value) (base : Nat) : ∀ n, Says M base n
  | 0 => fun e cs S vo vb out bound w h => absurd h (Nat.not_lt_zero _)
  | n + 1 => exp_any M base n (says_all M base n)
end Go.Proofs.Ytkfdklocgpgbfaa
