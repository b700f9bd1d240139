/- Joined texts. -/
import Derived.Test.YtkamjbmjjhbjcaaGreatDoorBu
import Derived.Test.YtkamjbmjjhbjcaaGreatDoorSy0
import Derived.KernelRfl
import Derived.Test.YtkamjbmjjhbjcaaGreatDoorJt1
import Derived.Test.YtkamjbmjjhbjcaaGreatDoorBl
import Derived.Test.YtkamjbmjjhbjcaaGreatDoorBc
import Derived.Test.YtkamjbmjjhbjcaaGreatDoorBv
import Derived.Test.YtkamjbmjjhbjcaaGreatDoorBw
import Derived.Test.YtkamjbmjjhbjcaaGreatDoorBx
import Derived.Test.YtkamjbmjjhbjcaaGreatDoorBz
import Derived.Test.YtkamjbmjjhbjcaaGreatDoorBe
set_option linter.unusedVariables false
set_option linter.unusedSimpArgs false
namespace Go.Proofs.YtkamjbmjjhbjcaaGreatDoor
open Go.RowKit
set_option linter.unusedSimpArgs false
set_option linter.unusedVariables false
set_option linter.unusedSectionVars false

/-- A loop with a number that may leave. -/
theorem num_ev {α : Type} (l : List α) (q : Nat → Int → Q) (fin : Int → Rs) (hl : l.length ≤ 2000000)
    (hs : ∀ (i j : Nat) (x : α) (s : Int), IntKind.i64.wrap ((i : Int) + 1) = (j : Int) → l[i]? = some x → x ∈ l → (i : Int) < (l.length : Int) → (∃ s', body PG EE TT ev (q i s) = .ok (fin s')) ∨ ∃ s', body PG EE TT ev (q i s) = passK (ev (q j s')))
    (he : ∀ s, body PG EE TT ev (q l.length s) = .ok (fin s)) (s : Int) : ∃ s', ev (q 0 s) = some (fin s') := by
  have key : ∀ (m i : Nat) (s : Int), i + m = l.length → ∃ s', ev (q i s) = some (fin s') := by
    intro m
    induction m with
    | zero =>
      intro i s hi
      rw [Nat.add_zero] at hi
      subst hi
      exact ⟨s, Evl.of (he s)⟩
    | succ m ih =>
      intro i s hi
      have hlt : i < l.length := by omega
      obtain ⟨j, hj⟩ : ∃ j, j = i + 1 := ⟨_, rfl⟩
      rcases hs i j l[i] s (wone hj (by omega)) (List.getElem?_eq_getElem hlt) (List.getElem_mem hlt) (by omega) with ⟨s', h⟩ | ⟨s', h⟩
      · exact ⟨s', Evl.of h⟩
      · obtain ⟨r, hr⟩ := ih j s' (by omega)
        refine ⟨r, Evl.of ?_⟩
        rw [h, hr]
        rfl
  exact key l.length 0 s (by omega)
def CntE (x : Ex) : Prop := ∀ most : Int, ∃ c : Int, ev (q24 (iv x.kind) (sv x.name) (iv x.n) (iv x.t.kind) (sv x.t.name) (iv x.t.n) (tys x.t.kids) (exs x.kids) (als x.alts) (bds x.binds) (iv x.at_) (iv most)) = some (0, [iv c])
theorem cnt_x : ∀ (n : Nat) (x : Ex), x.size ≤ n → n ≤ 2000000 → CntE x := by
  intro n
  induction n with
  | zero => intro x h _; have := x.size_pos; omega
  | succ n ih =>
    intro x h hn most
    obtain ⟨hl1, hl2, hl3, hs, hts⟩ := x.len_ok (by omega)
    have c0 : ∀ s, ∃ s', ev (q24b0a (iv 0) (iv s) (iv most) (iv x.kind) (sv x.name) (iv x.n) (iv x.t.kind) (sv x.t.name) (iv x.t.n) (tys x.t.kids) (exs x.kids) (als x.alts) (bds x.binds) (iv x.at_)) = some (0, [iv x.kind, sv x.name, iv x.n, iv x.t.kind, sv x.t.name, iv x.t.n, tys x.t.kids, exs x.kids, als x.alts, bds x.binds, iv x.at_, iv s', iv most]) := fun s =>
      num_ev x.kids (fun i s => q24b0a (iv (i : Int)) (iv s) (iv most) (iv x.kind) (sv x.name) (iv x.n) (iv x.t.kind) (sv x.t.name) (iv x.t.n) (tys x.t.kids) (exs x.kids) (als x.alts) (bds x.binds) (iv x.at_)) (fun s => (0, [iv x.kind, sv x.name, iv x.n, iv x.t.kind, sv x.t.name, iv x.t.n, tys x.t.kids, exs x.kids, als x.alts, bds x.binds, iv x.at_, iv s, iv most])) hl1 (fun i j y s e0 hx hm hi => by
        by_cases c : s < most
        · obtain ⟨r, hr⟩ := ih y (by have := Ex.kid_size hm; omega) (by omega) (IntKind.i64.wrap (most - s))
          refine .inr ⟨IntKind.i64.wrap (s + r), ?_⟩
          rw [h24b0a, g24b0a]
          simp [hi, c, idxK_exs hx, hr, e0]
        · refine .inl ⟨s, ?_⟩
          rw [h24b0a, g24b0a]
          simp [hi, c]) (fun s => by
        rw [h24b0a, g24b0a]
        simp) s
    have c2 : ∀ s, ∃ s', ev (q24b2a (iv 0) (iv s) (iv most) (iv x.kind) (sv x.name) (iv x.n) (iv x.t.kind) (sv x.t.name) (iv x.t.n) (tys x.t.kids) (exs x.kids) (als x.alts) (bds x.binds) (iv x.at_)) = some (0, [iv x.kind, sv x.name, iv x.n, iv x.t.kind, sv x.t.name, iv x.t.n, tys x.t.kids, exs x.kids, als x.alts, bds x.binds, iv x.at_, iv s', iv most]) := fun s =>
      num_ev x.binds (fun i s => q24b2a (iv (i : Int)) (iv s) (iv most) (iv x.kind) (sv x.name) (iv x.n) (iv x.t.kind) (sv x.t.name) (iv x.t.n) (tys x.t.kids) (exs x.kids) (als x.alts) (bds x.binds) (iv x.at_)) (fun s => (0, [iv x.kind, sv x.name, iv x.n, iv x.t.kind, sv x.t.name, iv x.t.n, tys x.t.kids, exs x.kids, als x.alts, bds x.binds, iv x.at_, iv s, iv most])) hl3 (fun i j y s e0 hx hm hi => by
        by_cases c : s < most
        · obtain ⟨r, hr⟩ := ih y.e (by have := Ex.bind_size hm; omega) (by omega) (IntKind.i64.wrap (most - s))
          refine .inr ⟨IntKind.i64.wrap (s + IntKind.i64.wrap (1 + r)), ?_⟩
          rw [h24b2a, g24b2a]
          simp [hi, c, idxK_bds hx, hr, e0]
        · refine .inl ⟨s, ?_⟩
          rw [h24b2a, g24b2a]
          simp [hi, c]) (fun s => by
        rw [h24b2a, g24b2a]
        simp) s
    have c4 : ∀ s, ∃ s', ev (q24b4a (iv 0) (iv s) (iv most) (iv x.kind) (sv x.name) (iv x.n) (iv x.t.kind) (sv x.t.name) (iv x.t.n) (tys x.t.kids) (exs x.kids) (als x.alts) (bds x.binds) (iv x.at_)) = some (0, [iv x.kind, sv x.name, iv x.n, iv x.t.kind, sv x.t.name, iv x.t.n, tys x.t.kids, exs x.kids, als x.alts, bds x.binds, iv x.at_, iv s']) := fun s =>
      num_ev x.alts (fun i s => q24b4a (iv (i : Int)) (iv s) (iv most) (iv x.kind) (sv x.name) (iv x.n) (iv x.t.kind) (sv x.t.name) (iv x.t.n) (tys x.t.kids) (exs x.kids) (als x.alts) (bds x.binds) (iv x.at_)) (fun s => (0, [iv x.kind, sv x.name, iv x.n, iv x.t.kind, sv x.t.name, iv x.t.n, tys x.t.kids, exs x.kids, als x.alts, bds x.binds, iv x.at_, iv s])) hl2 (fun i j y s e0 hx hm hi => by
        by_cases c : s < most
        · obtain ⟨r, hr⟩ := ih y.e (by have := Ex.alt_size hm; omega) (by omega) (IntKind.i64.wrap (most - s))
          refine .inr ⟨IntKind.i64.wrap (s + IntKind.i64.wrap (IntKind.i64.wrap (1 + r) + (y.p.kids.length : Int))), ?_⟩
          rw [h24b4a, g24b4a]
          simp [hi, c, idxK_als hx, hr, e0]
        · refine .inl ⟨s, ?_⟩
          rw [h24b4a, g24b4a]
          simp [hi, c]) (fun s => by
        rw [h24b4a, g24b4a]
        simp) s
    obtain ⟨r0, h0⟩ := c0 (IntKind.i64.wrap (1 + (x.t.kids.length : Int)))
    obtain ⟨r2, h2⟩ := c2 r0
    obtain ⟨r4, h4⟩ := c4 r2
    refine ⟨r4, Evl.of ?_⟩
    rw [h24, g24]
    simp [h0, h2, h4]
theorem small_x (x : Ex) (hz : x.size ≤ 2000000) (most : Int) : ∃ b : Bool, ev (q7 (iv x.kind) (sv x.name) (iv x.n) (iv x.t.kind) (sv x.t.name) (iv x.t.n) (tys x.t.kids) (exs x.kids) (als x.alts) (bds x.binds) (iv x.at_) (iv most)) = some (0, [bv b]) := by
  obtain ⟨c, hc⟩ := cnt_x 2000000 x hz (Nat.le_refl _) (IntKind.i64.wrap (most + 1))
  by_cases h : c ≤ most
  · exact ⟨true, Evl.of (by rw [h7, g7]; simp [hc, h])⟩
  · exact ⟨false, Evl.of (by rw [h7, g7]; simp [hc, h])⟩
end Go.Proofs.YtkamjbmjjhbjcaaGreatDoor
namespace Go.Proofs.YtkamjbmjjhbjcaaGreatDoor
open Go.RowKit
set_option linter.unusedVariables false
def T3 : Tr := .alt (.call ⟨6, [], [], .pv (.lit (.bool true)), []⟩ 0 (.alt (.call ⟨7, [.agg [.pv (.sym 0), .pv (.sym 1), .pv (.sym 2), .pv (.sym 3), .pv (.sym 4), .pv (.sym 5), .pv (.sym 6), .pv (.sym 7), .pv (.sym 8), .pv (.sym 9), .pv (.sym 10)], .pv (.lit (.int .i64 1000))], [], .pv (.lit (.bool true)), []⟩ 0 (.alt (.call ⟨8, [.agg [.pv (.sym 0), .pv (.sym 1), .pv (.sym 2), .pv (.sym 3), .pv (.sym 4), .pv (.sym 5), .pv (.sym 6), .pv (.sym 7), .pv (.sym 8), .pv (.sym 9), .pv (.sym 10)]], [], .pv (.lit (.bool true)), []⟩ 0 (.alt (.call ⟨9, [.agg [.pv (.sym 0), .pv (.sym 1), .pv (.sym 2), .pv (.sym 3), .pv (.sym 4), .pv (.sym 5), .pv (.sym 6), .pv (.sym 7), .pv (.sym 8), .pv (.sym 9), .pv (.sym 10)]], [], .pv (.lit (.bool true)), []⟩ 0 (.call ⟨10, [.agg [.pv (.sym 0), .pv (.sym 1), .pv (.sym 2), .pv (.sym 3), .pv (.sym 4), .pv (.sym 5), .pv (.sym 6), .pv (.sym 7), .pv (.sym 8), .pv (.sym 9), .pv (.sym 10)]], [], .pv (.sym 11), []⟩ 1 (.call ⟨11, [.agg [.pv (.sym 0), .pv (.sym 1), .pv (.sym 2), .pv (.sym 3), .pv (.sym 4), .pv (.sym 5), .pv (.sym 6), .pv (.sym 7), .pv (.sym 8), .pv (.sym 9), .pv (.sym 10)]], [], .pv (.sym 12), []⟩ 1 (.alt (.say (.bin .eql 9 (.pv (.sym 11)) (.pv (.sym 12)) (.pv (.lit (.bool true)))) 0 (.ret (.pv (.lit (.bool true))) [])) (.say (.bin .eql 9 (.pv (.sym 11)) (.pv (.sym 12)) (.pv (.lit (.bool false)))) 0 (.ret (.pv (.lit (.bool false))) [])))))) (.call ⟨9, [.agg [.pv (.sym 0), .pv (.sym 1), .pv (.sym 2), .pv (.sym 3), .pv (.sym 4), .pv (.sym 5), .pv (.sym 6), .pv (.sym 7), .pv (.sym 8), .pv (.sym 9), .pv (.sym 10)]], [], .pv (.lit (.bool false)), []⟩ 0 (.ret (.pv (.lit (.bool false))) [])))) (.call ⟨8, [.agg [.pv (.sym 0), .pv (.sym 1), .pv (.sym 2), .pv (.sym 3), .pv (.sym 4), .pv (.sym 5), .pv (.sym 6), .pv (.sym 7), .pv (.sym 8), .pv (.sym 9), .pv (.sym 10)]], [], .pv (.lit (.bool false)), []⟩ 0 (.alt (.call ⟨9, [.agg [.pv (.sym 0), .pv (.sym 1), .pv (.sym 2), .pv (.sym 3), .pv (.sym 4), .pv (.sym 5), .pv (.sym 6), .pv (.sym 7), .pv (.sym 8), .pv (.sym 9), .pv (.sym 10)]], [], .pv (.lit (.bool true)), []⟩ 0 (.ret (.pv (.lit (.bool false))) [])) (.call ⟨9, [.agg [.pv (.sym 0), .pv (.sym 1), .pv (.sym 2), .pv (.sym 3), .pv (.sym 4), .pv (.sym 5), .pv (.sym 6), .pv (.sym 7), .pv (.sym 8), .pv (.sym 9), .pv (.sym 10)]], [], .pv (.lit (.bool false)), []⟩ 0 (.call ⟨10, [.agg [.pv (.sym 0), .pv (.sym 1), .pv (.sym 2), .pv (.sym 3), .pv (.sym 4), .pv (.sym 5), .pv (.sym 6), .pv (.sym 7), .pv (.sym 8), .pv (.sym 9), .pv (.sym 10)]], [], .pv (.sym 11), []⟩ 1 (.alt (.say (.bin .eql 9 (.pv (.sym 11)) (.pv (.lit (.string ⟨#[]⟩))) (.pv (.lit (.bool true)))) 0 (.ret (.pv (.lit (.bool true))) [])) (.say (.bin .eql 9 (.pv (.sym 11)) (.pv (.lit (.string ⟨#[]⟩))) (.pv (.lit (.bool false)))) 0 (.ret (.pv (.lit (.bool false))) []))))))))) (.call ⟨7, [.agg [.pv (.sym 0), .pv (.sym 1), .pv (.sym 2), .pv (.sym 3), .pv (.sym 4), .pv (.sym 5), .pv (.sym 6), .pv (.sym 7), .pv (.sym 8), .pv (.sym 9), .pv (.sym 10)], .pv (.lit (.int .i64 1000))], [], .pv (.lit (.bool false)), []⟩ 0 (.ret (.pv (.lit (.bool true))) [])))) (.call ⟨6, [], [], .pv (.lit (.bool false)), []⟩ 0 (.ret (.pv (.lit (.bool false))) []))
def A3 : List AV := [.agg [.pv (.sym 0), .pv (.sym 1), .pv (.sym 2), .pv (.sym 3), .pv (.sym 4), .pv (.sym 5), .pv (.sym 6), .pv (.sym 7), .pv (.sym 8), .pv (.sym 9), .pv (.sym 10)]]
def H3 : List AObj := []
set_option maxRecDepth 100000 in
theorem c3 : chk Tryz.prog (leafF Tryz.prog t3 3 A3 H3) T3 11 [] [] [] = true := by kernel_rfl
theorem F3 (x0 : PV) (x1 : PV) (x2 : PV) (x3 : PV) (x4 : PV) (x5 : PV) (x6 : PV) (x7 : PV) (x8 : PV) (x9 : PV) (x10 : PV) (hn : NSL [x0, x1, x2, x3, x4, x5, x6, x7, x8, x9, x10]) {v : AV} {h' : List AObj} (hd : Den Tryz.prog Tryz.f3 T3 [x0, x1, x2, x3, x4, x5, x6, x7, x8, x9, x10] (.ret v h')) :
    Sem Tryz.prog 3 [.agg [.pv x0, .pv x1, .pv x2, .pv x3, .pv x4, .pv x5, .pv x6, .pv x7, .pv x8, .pv x9, .pv x10]] [] v h' :=
  fun_rule f3_at f3_body mixed f3_tab (args := A3) (h := H3) (by kernel_rfl) c3 rfl hn (by simp only [A3, TsAs, TsA, nm, isRow, List.getD_cons_zero, List.getD_cons_succ, and_self, and_true]) (by trivial) hd
end Go.Proofs.YtkamjbmjjhbjcaaGreatDoor
namespace Go.Proofs.YtkamjbmjjhbjcaaGreatDoor
open Go.RowKit
set_option linter.unusedVariables false
theorem step_below {K : Kn} {h : List AObj} {w w' : World} (W : WR K h w) (hb : Below w.heap.size w w') : Step K h w K h w' := by
  have hk : ∀ i g, K.mu i = some g → w'.heap[g]? = w.heap[g]? := fun i g hm => hb.block g (W.lt i g hm)
  have hag : ∀ g o v, K.M g o = some v → g < w.heap.size := by
    intro g o v hm
    apply Decidable.byContradiction
    intro hn
    rw [W.noM (by omega)] at hm
    cases hm
  refine ⟨⟨W.fresh, W.has, fun i g hm => Nat.lt_of_lt_of_le (W.lt i g hm) hb.size, fun i ty cells hi => ?_, fun i ks vs hi => ?_, fun t ty sz len ht => ?_, W.inj, W.apart, fun g o v hm => ?_⟩, Ext.refl K, ⟨hb.os, hb.tape, hb.output, hb.size, fun k hk _ => hb.block k hk⟩, fun _ _ => ⟨rfl, rfl⟩, fun _ _ _ _ => rfl, fun _ _ h => .inl h, fun _ h _ => h, Nat.le_refl _⟩
  · obtain ⟨g, cs, h1, h2, h3⟩ := W.box i ty cells hi
    exact ⟨g, cs, h1, by rw [hk i g h1]; exact h2, h3⟩
  · obtain ⟨g, ents, clock, h1, h2, h3⟩ := W.map i ks vs hi
    exact ⟨g, ents, clock, h1, by rw [hk i g h1]; exact h2, h3⟩
  · obtain ⟨g, cs, h1, h2, h3⟩ := W.tok t ty sz len ht
    exact ⟨g, cs, h1, by rw [hk t g h1]; exact h2, h3⟩
  · rw [World.cell?_of_block (hb.block g (hag g o v hm))]; exact W.agr g o v hm
/-! strings.Join. -/
def strsOf : List AV → Option (List ByteArray)
  | [] => some []
  | .pv (.lit (.string b)) :: l => match strsOf l with
    | some r => some (b :: r)
    | none => none
  | _ :: _ => none
theorem strsOf_get : ∀ {l : List AV} {xs : List ByteArray}, strsOf l = some xs → xs.length = l.length ∧ ∀ (j : Nat) x, xs[j]? = some x → l[j]? = some (.pv (.lit (.string x)))
  | [], xs, h => by cases h; exact ⟨rfl, fun j x hx => by simp at hx⟩
  | a :: l, xs, h => by
    unfold strsOf at h
    split at h
    · rename_i e; cases e
    · rename_i b l' e
      cases e
      split at h
      · rename_i r hr
        cases h
        obtain ⟨h1, h2⟩ := strsOf_get hr
        refine ⟨by simp [h1], fun j x hx => ?_⟩
        cases j with
        | zero => simp at hx; subst hx; rfl
        | succ j => exact h2 j x (by simpa using hx)
      · cases h
    · cases h
def joinV (xs : List ByteArray) (sep : ByteArray) : ByteArray := ⟨(Lib.join (xs.map (·.data.toList)) sep.data.toList).toArray⟩
def spJ (args : List AV) (h : List AObj) : Option (AV × List AObj) := match args with
  | [.sl o lo len 1, .pv (.lit (.string sep))] => match h[o]? with
    | some (.box _ cells) => match Nat.ble (lo + len) cells.length && Nat.ble len 1000000 with
      | true => match strsOf ((cells.drop lo).take len) with
        | some xs => match Nat.ble (Lib.join (xs.map (·.data.toList)) sep.data.toList).length 140737488355328 with
          | true => some (.pv (.lit (.string (joinV xs sep))), h)
          | false => none
        | none => none
      | false => none
    | _ => none
  | [.pv (.lit (.slice none 0 0)), .pv (.lit (.string sep))] => some (.pv (.lit (.string ⟨#[]⟩)), h)
  | _ => none
theorem two_vals {K : Kn} {a b : AV} {us : List Value} (hv : VL K [a, b] us) : ∃ u v, us = [u, v] ∧ VR K a u ∧ VR K b v := by
  obtain ⟨hl, hh⟩ := hv
  match us, hl with
  | [u, v], _ => exact ⟨u, v, rfl, hh 0 (by simp) (by simp), hh 1 (by simp) (by simp)⟩
theorem lit_val {K : Kn} {v u : Value} (h : VR K (.pv (.lit v)) u) : u = v := by
  cases h with
  | pv h => cases h; rfl
theorem spJ_ok (R : Nat → PV) {args : List AV} {h : List AObj} {v : AV} {h' : List AObj} (he : spJ args h = some (v, h')) : CallOk R Tryz.prog 97 args h v h' := by
  unfold spJ at he
  split at he
  · rename_i o lo len sep
    split at he
    · rename_i ty cells hc
      split at he
      · rename_i hb
        split at he
        · rename_i xs hx
          split at he
          · rename_i hj
            cases he
            intro K w us hR W hv
            obtain ⟨u, s, rfl, h1, h2⟩ := two_vals hv
            have h2 := lit_val h2
            subst h2
            obtain ⟨hlen, hget⟩ := strsOf_get hx
            rw [Bool.and_eq_true] at hb
            have hb2 := Nat.le_of_ble_eq_true hb.2
            have hb := Nat.le_of_ble_eq_true hb.1
            have hl : xs.length = len := by rw [hlen, List.length_take, List.length_drop]; omega
            cases h1 with
            | sl _ _ _ _ g cap off hm hE hlc hz hof =>
              obtain ⟨g', cs, m1, m2, m3, m4⟩ := W.box o ty cells hc
              rw [hm] at m1
              cases m1
              have hcells : ∀ (j : Nat) x, xs[j]? = some x → w.cell? ⟨g, off + j, none⟩ = some (.string x) := by
                intro j x hxj
                have hjl : j < xs.length := (List.getElem?_eq_some_iff.1 hxj).1
                have hoff : off = lo := by rw [hof (by omega)]; omega
                have h3 := hget j x hxj
                rw [List.getElem?_take_of_lt (by omega), List.getElem?_drop] at h3
                obtain ⟨q1, q2⟩ := List.getElem?_eq_some_iff.1 h3
                have q3 : lo + j < (cs.toList.take cells.length).length := by rw [← m4.1]; exact q1
                have q4 := m4.2 (lo + j) q1 q3
                rw [q2] at q4
                have q5 := lit_val q4
                rw [List.getElem_take] at q5
                have q6 : lo + j < cs.size := by rw [List.length_take] at q3; simp at q3; omega
                subst hoff
                simp only [World.cell?, m2]
                rw [Array.getElem?_eq_getElem q6]
                exact congrArg some (by simpa using q5)
              have hcall := Tryz.strings_Join g off cap xs sep w hcells (W.lt o g hm) (by omega) (by omega) (Nat.le_of_ble_eq_true hj)
              rw [hl] at hcall
              refine hcall.mono fun e w' ⟨q, hbl⟩ => ?_
              subst q
              exact ⟨K, ⟨_, rfl, .pv (.lit _ rfl)⟩, step_below W hbl⟩
          · cases he
        · cases he
      · cases he
    · cases he
  · rename_i sep
    cases he
    intro K w us hR W hv
    obtain ⟨u, s, rfl, h1, h2⟩ := two_vals hv
    have h1 := lit_val h1
    have h2 := lit_val h2
    subst h1
    subst h2
    refine (Tryz.strings_Join_none none 0 sep w).mono fun e w' ⟨q, hw⟩ => ?_
    subst q
    subst hw
    exact ⟨K, ⟨_, rfl, .pv (.lit _ rfl)⟩, Step.refl W⟩
  · cases he
/-! int63.Text and strings.IndexByte. -/
def spT (args : List AV) (h : List AObj) : Option (AV × List AObj) := match args, h with
  | [.pv (.lit (.int .i64 n))], [] => match decide (0 ≤ n ∧ n < 4611686018427387904) with
    | true => some (.pv (.lit (.string (digs n.toNat))), [])
    | false => none
  | _, _ => none
theorem spT_ok (R : Nat → PV) {args : List AV} {h : List AObj} {v : AV} {h' : List AObj} (he : spT args h = some (v, h')) : CallOk R Tryz.prog 43 args h v h' := by
  unfold spT at he
  split at he
  · rename_i n
    split at he
    · rename_i hd
      cases he
      have hd := of_decide_eq_true hd
      exact sem_pure (vs := [.int .i64 n]) (fun a ha => by rw [List.mem_singleton.1 ha]; rfl) rfl (fun w _ => Lx.txt_any n hd.1 hd.2 w) R
    · cases he
  · cases he
def spI (args : List AV) (h : List AObj) : Option (AV × List AObj) := match args, h with
  | [.pv (.lit (.string s)), .pv (.lit (.int .u8 c))], [] => some (.pv (.lit (.int .i64 (Lib.indexByte s.data.toList c.toNat.toUInt8))), [])
  | _, _ => none
theorem spI_ok (R : Nat → PV) {args : List AV} {h : List AObj} {v : AV} {h' : List AObj} (he : spI args h = some (v, h')) : CallOk R Tryz.prog 175 args h v h' := by
  unfold spI at he
  split at he
  · rename_i s c
    cases he
    refine sem_pure (vs := [.string s, .int .u8 c]) (fun a ha => ?_) rfl (fun w _ => (Tryz.strings_IndexByte s c w).mono fun e w' ⟨q, hw⟩ => ⟨q, hw ▸ Below.refl _ _⟩) R
    simp only [List.mem_cons, List.not_mem_nil, or_false] at ha
    rcases ha with rfl | rfl <;> rfl
  · cases he
def spK (f : Nat) (args : List AV) (h : List AObj) : Option (AV × List AObj) := match Nat.beq f 97 with
  | true => spJ args h
  | false => match Nat.beq f 43 with
    | true => spT args h
    | false => match Nat.beq f 175 with
      | true => spI args h
      | false => none
theorem spK_ok (R : Nat → PV) : CallsOk R Tryz.prog spK := by
  intro f args h v h' he
  unfold spK at he
  split at he
  · rename_i hf
    rw [Nat.eq_of_beq_eq_true hf]
    exact spJ_ok R he
  · split at he
    · rename_i hf
      rw [Nat.eq_of_beq_eq_true hf]
      exact spT_ok R he
    · split at he
      · rename_i hf
        rw [Nat.eq_of_beq_eq_true hf]
        exact spI_ok R he
      · cases he
end Go.Proofs.YtkamjbmjjhbjcaaGreatDoor
namespace Go.Proofs.YtkamjbmjjhbjcaaGreatDoor
open Go.RowKit
set_option maxRecDepth 100000 in
theorem awake_run : evalF Tryz.prog okT tabT spK 100000 60 6 [] [] = some (.pv (.lit (.bool true)), []) := by kernel_rfl
theorem awake_sem : Sem Tryz.prog 6 [] [] (.pv (bv true)) [] := fun R => evalF_sound (spK_ok R) okT_ok tabT_ok (fun _ => rfl) mixed 60 _ _ _ _ _ awake_run
end Go.Proofs.YtkamjbmjjhbjcaaGreatDoor
namespace Go.Proofs.YtkamjbmjjhbjcaaGreatDoor
open Go.RowKit
set_option linter.unusedSimpArgs false
set_option linter.unusedVariables false
set_option linter.unusedSectionVars false

/-- The text of a right expression. -/
def expT (x : Ex) : ByteArray := if 300 < (part (pr false x)).2 then (part (pr true x)).1 else (part (pr false x)).1
theorem pexp_x (x : Ex) (hg : x.good = true) (hz : x.size ≤ 1100000) : ev (q37 (iv x.kind) (sv x.name) (iv x.n) (iv x.t.kind) (sv x.t.name) (iv x.t.n) (tys x.t.kids) (exs x.kids) (als x.alts) (bds x.binds) (iv x.at_)) = some (0, [sv (expT x)]) := by
  have h1 := (spa 1100000 x hz (Nat.le_refl _) hg).part
  have h2 := (spb 1100000 x hz (Nat.le_refl _) hg).part
  unfold expT
  generalize part (pr false x) = A at *
  generalize part (pr true x) = B at *
  refine Evl.of ?_
  rw [h37, g37]
  by_cases c : 300 < A.2
  · have c2 : (300 : Int) < (A.2 : Int) := by omega
    simp [h1, h2, c, c2]
  · have c2 : ¬ (300 : Int) < (A.2 : Int) := by omega
    simp [h1, c, c2]
theorem rexp_x (x : Ex) (hg : x.good = true) (hz : x.size ≤ 1100000) : ev (q11 (iv x.kind) (sv x.name) (iv x.n) (iv x.t.kind) (sv x.t.name) (iv x.t.n) (tys x.t.kids) (exs x.kids) (als x.alts) (bds x.binds) (iv x.at_)) = some (0, [sv (expT x)]) := by
  have hs : okS eB 0 0 x.size := ⟨by have : eB.size = 0 := rfl; omega, by omega, Nat.le_refl _, by omega⟩
  have h1 : ev (q38a (iv x.kind) (sv x.name) (iv x.n) (iv x.t.kind) (sv x.t.name) (iv x.t.n) (tys x.t.kids) (exs x.kids) (als x.alts) (bds x.binds) (iv x.at_) (sv eB) (iv 0) (iv 0)) = _ := (sra 1100000 x hz (Nat.le_refl _) hg).part eB 0 0 hs
  have h2 : ev (q38b (iv x.kind) (sv x.name) (iv x.n) (iv x.t.kind) (sv x.t.name) (iv x.t.n) (tys x.t.kids) (exs x.kids) (als x.alts) (bds x.binds) (iv x.at_) (sv eB) (iv 0) (iv 0)) = _ := (srb 1100000 x hz (Nat.le_refl _) hg).part eB 0 0 hs
  unfold expT
  generalize part (pr false x) = A at *
  generalize part (pr true x) = B at *
  have e1 : rs bf eB 0 0 A = [sv A.1, iv 0, iv (A.2 : Int), bf] := by
    unfold rs pt
    rw [if_pos rfl]
    have : max 0 (0 + A.2) = A.2 := by omega
    rw [this]; rfl
  have e2 : rs bt eB 0 0 B = [sv B.1, iv 0, iv (B.2 : Int), bt] := by
    unfold rs pt
    rw [if_pos rfl]
    have : max 0 (0 + B.2) = B.2 := by omega
    rw [this]; rfl
  rw [e1] at h1
  rw [e2] at h2
  refine Evl.of ?_
  rw [h11, g11]
  by_cases c : 300 < A.2
  · have c2 : (300 : Int) < (A.2 : Int) := by omega
    simp [h1, h2, c, c2]
  · have c2 : ¬ (300 : Int) < (A.2 : Int) := by omega
    simp [h1, c, c2]
theorem showexp_x (x : Ex) (hz : x.size ≤ 1100000) : ev (q10 (iv x.kind) (sv x.name) (iv x.n) (iv x.t.kind) (sv x.t.name) (iv x.t.n) (tys x.t.kids) (exs x.kids) (als x.alts) (bds x.binds) (iv x.at_)) = some (0, [sv (if x.good = true then expT x else eB)]) := by
  have hg := p_goodE 2000000 x (by omega) (Nat.le_refl _)
  unfold PGoodE at hg
  refine Evl.of ?_
  rw [h10, g10]
  cases h : x.good
  · rw [h] at hg
    simp [hg]
  · rw [h] at hg
    have he := pexp_x x h hz
    simp [hg, he]
theorem ev_fx {q : Q} {r : Rs} {ent : Ent} {sh : Shape} {args : List AV} {h h' : List AObj} {v : AV} (he : EE q.k = ent) (hl : ent.lp = none) (hs : shp SS EE q.k r.1 = sh) (ha : openAVs (nm q.xs) ent.args = args) (hh : openH (nm q.xs) ent.h = h) (hv : openAV (nm r.2) sh.v = v) (hh' : openH (nm r.2) sh.h = h')
    (hn : q.xs.length = ent.n) (hr : ent.rin = []) (hns : NSL q.xs) (h0 : ev q = some r) : Sem Tryz.prog ent.f args h v h' ∧ NSL r.2 := by
  obtain ⟨h1, h2⟩ := ev_sound h0 ⟨by rw [he]; exact hn, hns, by rw [he, hr]; intro i hi; cases hi⟩
  refine ⟨?_, h2.ns⟩
  unfold SemQ at h1
  rw [he, hl] at h1
  simp only at h1
  rw [hs, ha, hh, hv, hh'] at h1
  exact h1
abbrev expA (x : Ex) : AV := .agg [.pv (iv x.kind), .pv (sv x.name), .pv (iv x.n), .pv (iv x.t.kind), .pv (sv x.t.name), .pv (iv x.t.n), .pv (tys x.t.kids), .pv (exs x.kids), .pv (als x.alts), .pv (bds x.binds), .pv (iv x.at_)]
theorem sem_sm (x : Ex) (most : Int) {v : PV} (h : ev (q7 (iv x.kind) (sv x.name) (iv x.n) (iv x.t.kind) (sv x.t.name) (iv x.t.n) (tys x.t.kids) (exs x.kids) (als x.alts) (bds x.binds) (iv x.at_) (iv most)) = some (0, [v])) : Sem Tryz.prog 7 [expA x, .pv (iv most)] [] (.pv v) [] :=
  (ev_fx (q := q7 (iv x.kind) (sv x.name) (iv x.n) (iv x.t.kind) (sv x.t.name) (iv x.t.n) (tys x.t.kids) (exs x.kids) (als x.alts) (bds x.binds) (iv x.at_) (iv most)) (r := (0, [v])) (ent := eF 7 [(.agg (wR 0 11)),o11] [] 12 136) (sh := yU o0 1) (by kernel_rfl) rfl (by kernel_rfl) rfl rfl rfl rfl rfl rfl (by simp [NSL_cons, NSL_nil]) h).1
theorem sem_go (x : Ex) {v : PV} (h : ev (q8 (iv x.kind) (sv x.name) (iv x.n) (iv x.t.kind) (sv x.t.name) (iv x.t.n) (tys x.t.kids) (exs x.kids) (als x.alts) (bds x.binds) (iv x.at_)) = some (0, [v])) : Sem Tryz.prog 8 [expA x] [] (.pv v) [] :=
  (ev_fx (q := q8 (iv x.kind) (sv x.name) (iv x.n) (iv x.t.kind) (sv x.t.name) (iv x.t.n) (tys x.t.kids) (exs x.kids) (als x.alts) (bds x.binds) (iv x.at_)) (r := (0, [v])) (ent := eF 8 y7 [] 11 40) (sh := yU o0 1) (by kernel_rfl) rfl (by kernel_rfl) rfl rfl rfl rfl rfl rfl (by simp [NSL_cons, NSL_nil]) h).1
theorem sem_ri (x : Ex) {v : PV} (h : ev (q9 (iv x.kind) (sv x.name) (iv x.n) (iv x.t.kind) (sv x.t.name) (iv x.t.n) (tys x.t.kids) (exs x.kids) (als x.alts) (bds x.binds) (iv x.at_)) = some (0, [v])) : Sem Tryz.prog 9 [expA x] [] (.pv v) [] :=
  (ev_fx (q := q9 (iv x.kind) (sv x.name) (iv x.n) (iv x.t.kind) (sv x.t.name) (iv x.t.n) (tys x.t.kids) (exs x.kids) (als x.alts) (bds x.binds) (iv x.at_)) (r := (0, [v])) (ent := eF 9 y7 [] 11 28) (sh := yU o0 1) (by kernel_rfl) rfl (by kernel_rfl) rfl rfl rfl rfl rfl rfl (by simp [NSL_cons, NSL_nil]) h).1
theorem sem_ex (x : Ex) {v : PV} (h : ev (q10 (iv x.kind) (sv x.name) (iv x.n) (iv x.t.kind) (sv x.t.name) (iv x.t.n) (tys x.t.kids) (exs x.kids) (als x.alts) (bds x.binds) (iv x.at_)) = some (0, [v])) : Sem Tryz.prog 10 [expA x] [] (.pv v) [] :=
  (ev_fx (q := q10 (iv x.kind) (sv x.name) (iv x.n) (iv x.t.kind) (sv x.t.name) (iv x.t.n) (tys x.t.kids) (exs x.kids) (als x.alts) (bds x.binds) (iv x.at_)) (r := (0, [v])) (ent := eF 10 y7 [] 11 124) (sh := yU o0 1) (by kernel_rfl) rfl (by kernel_rfl) rfl rfl rfl rfl rfl rfl (by simp [NSL_cons, NSL_nil]) h).1
theorem sem_re (x : Ex) {v : PV} (h : ev (q11 (iv x.kind) (sv x.name) (iv x.n) (iv x.t.kind) (sv x.t.name) (iv x.t.n) (tys x.t.kids) (exs x.kids) (als x.alts) (bds x.binds) (iv x.at_)) = some (0, [v])) : Sem Tryz.prog 11 [expA x] [] (.pv v) [] :=
  (ev_fx (q := q11 (iv x.kind) (sv x.name) (iv x.n) (iv x.t.kind) (sv x.t.name) (iv x.t.n) (tys x.t.kids) (exs x.kids) (als x.alts) (bds x.binds) (iv x.at_)) (r := (0, [v])) (ent := eF 11 y7 [] 11 80) (sh := yU o0 1) (by kernel_rfl) rfl (by kernel_rfl) rfl rfl rfl rfl rfl rfl (by simp [NSL_cons, NSL_nil]) h).1
theorem law_sem (x : Ex) (hz : x.size ≤ 1048576) : Sem Tryz.prog 3 [expA x] [] (.pv (bv true)) [] := by
  have sa := awake_sem
  obtain ⟨bs, hbs⟩ := small_x x (by omega) 1000
  have s1 := sem_sm x 1000 hbs
  have s2 := sem_go x (r_goodE 1900000 x (by omega) (Nat.le_refl _))
  have s3 := sem_ri x (p_goodE 2000000 x (by omega) (Nat.le_refl _))
  have s4 := sem_ex x (showexp_x x (by omega))
  refine F3 (iv x.kind) (sv x.name) (iv x.n) (iv x.t.kind) (sv x.t.name) (iv x.t.n) (tys x.t.kids) (exs x.kids) (als x.alts) (bds x.binds) (iv x.at_) (by simp) ?_
  unfold T3
  rw [Den]
  refine .inl ?_
  rw [Den, exN]
  refine ⟨⟨sa, trivial, trivial⟩, ?_⟩
  rw [Den]
  cases bs
  · refine .inr ?_
    rw [Den, exN]
    refine ⟨⟨s1, trivial, trivial⟩, ?_⟩
    rw [Den]
    exact ⟨rfl, by simp only [TsAs, TsA, and_self], trivial⟩
  · refine .inl ?_
    rw [Den, exN]
    refine ⟨⟨s1, trivial, trivial⟩, ?_⟩
    rw [Den]
    cases hg : x.good
    · rw [hg] at s2 s3 s4
      simp only [Bool.false_eq_true, if_false] at s4
      refine .inr ?_
      rw [Den, exN]
      refine ⟨⟨s2, trivial, trivial⟩, ?_⟩
      rw [Den]
      refine .inr ?_
      rw [Den, exN]
      refine ⟨⟨s3, trivial, trivial⟩, ?_⟩
      rw [Den]
      simp only [exN, List.append_assoc, List.cons_append, List.nil_append]
      refine ⟨sv eB, ⟨⟨s4, trivial, trivial⟩, ?_⟩, by simp⟩
      rw [Den]
      refine .inl ?_
      rw [Den, exN]
      refine ⟨bin_eqs.2 (by simp), ?_⟩
      rw [Den]
      exact ⟨rfl, by simp only [TsAs, TsA, and_self], trivial⟩
    · rw [hg] at s2 s3 s4
      simp only [if_true] at s4
      have s5 := sem_re x (rexp_x x hg (by omega))
      refine .inl ?_
      rw [Den, exN]
      refine ⟨⟨s2, trivial, trivial⟩, ?_⟩
      rw [Den]
      refine .inl ?_
      rw [Den, exN]
      refine ⟨⟨s3, trivial, trivial⟩, ?_⟩
      rw [Den]
      simp only [exN, List.append_assoc, List.cons_append, List.nil_append]
      refine ⟨sv (expT x), ⟨⟨s4, trivial, trivial⟩, ?_⟩, by simp⟩
      rw [Den]
      simp only [exN, List.append_assoc, List.cons_append, List.nil_append]
      refine ⟨sv (expT x), ⟨⟨s5, trivial, trivial⟩, ?_⟩, by simp⟩
      rw [Den]
      refine .inl ?_
      rw [Den, exN]
      refine ⟨bin_eqs.2 (by simp), ?_⟩
      rw [Den]
      exact ⟨rfl, by simp only [TsAs, TsA, and_self], trivial⟩
end Go.Proofs.YtkamjbmjjhbjcaaGreatDoor
