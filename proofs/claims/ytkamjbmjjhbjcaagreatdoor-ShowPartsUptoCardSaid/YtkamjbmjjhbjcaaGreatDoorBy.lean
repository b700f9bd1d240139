/- Joined texts. -/
import Derived.Test.YtkamjbmjjhbjcaaGreatDoorSy0
import Derived.KernelRfl
import Derived.Test.YtkamjbmjjhbjcaaGreatDoorJt1
import Derived.Test.YtkamjbmjjhbjcaaGreatDoorBl
import Derived.Test.YtkamjbmjjhbjcaaGreatDoorBc
import Derived.Test.YtkamjbmjjhbjcaaGreatDoorBs
import Derived.Test.YtkamjbmjjhbjcaaGreatDoorBe
namespace Go.Proofs.YtkamjbmjjhbjcaaGreatDoor
open Go.RowKit
set_option linter.unusedVariables false
def T4 : Tr := .alt (.call ⟨6, [], [], .pv (.lit (.bool true)), []⟩ 0 (.alt (.call ⟨12, [.agg [.pv (.sym 0), .pv (.sym 1), .pv (.sym 2), .pv (.sym 3), .pv (.sym 4)]], [], .pv (.lit (.bool true)), []⟩ 0 (.call ⟨13, [.agg [.pv (.sym 0), .pv (.sym 1), .pv (.sym 2), .pv (.sym 3), .pv (.sym 4)]], [], .pv (.sym 9), []⟩ 1 (.alt (.call ⟨14, [.agg [.pv (.sym 5), .pv (.sym 6), .pv (.sym 7), .pv (.sym 8)]], [], .pv (.lit (.bool true)), []⟩ 0 (.call ⟨15, [.agg [.pv (.sym 5), .pv (.sym 6), .pv (.sym 7), .pv (.sym 8)]], [], .pv (.sym 10), []⟩ 1 (.call ⟨16, [.agg [.pv (.sym 0), .pv (.sym 1), .pv (.sym 2), .pv (.sym 3), .pv (.sym 4)]], [], .pv (.sym 11), []⟩ 1 (.alt (.say (.bin .eql 9 (.pv (.sym 11)) (.pv (.sym 9)) (.pv (.lit (.bool true)))) 0 (.call ⟨17, [.agg [.pv (.sym 5), .pv (.sym 6), .pv (.sym 7), .pv (.sym 8)]], [], .pv (.sym 12), []⟩ 1 (.alt (.say (.bin .eql 9 (.pv (.sym 12)) (.pv (.sym 10)) (.pv (.lit (.bool true)))) 0 (.ret (.pv (.lit (.bool true))) [])) (.say (.bin .eql 9 (.pv (.sym 12)) (.pv (.sym 10)) (.pv (.lit (.bool false)))) 0 (.ret (.pv (.lit (.bool false))) []))))) (.say (.bin .eql 9 (.pv (.sym 11)) (.pv (.sym 9)) (.pv (.lit (.bool false)))) 0 (.ret (.pv (.lit (.bool false))) [])))))) (.call ⟨14, [.agg [.pv (.sym 5), .pv (.sym 6), .pv (.sym 7), .pv (.sym 8)]], [], .pv (.lit (.bool false)), []⟩ 0 (.call ⟨16, [.agg [.pv (.sym 0), .pv (.sym 1), .pv (.sym 2), .pv (.sym 3), .pv (.sym 4)]], [], .pv (.sym 10), []⟩ 1 (.alt (.say (.bin .eql 9 (.pv (.sym 10)) (.pv (.sym 9)) (.pv (.lit (.bool true)))) 0 (.call ⟨17, [.agg [.pv (.sym 5), .pv (.sym 6), .pv (.sym 7), .pv (.sym 8)]], [], .pv (.sym 11), []⟩ 1 (.alt (.say (.bin .eql 9 (.pv (.sym 11)) (.pv (.lit (.string ⟨#[]⟩))) (.pv (.lit (.bool true)))) 0 (.ret (.pv (.lit (.bool true))) [])) (.say (.bin .eql 9 (.pv (.sym 11)) (.pv (.lit (.string ⟨#[]⟩))) (.pv (.lit (.bool false)))) 0 (.ret (.pv (.lit (.bool false))) []))))) (.say (.bin .eql 9 (.pv (.sym 10)) (.pv (.sym 9)) (.pv (.lit (.bool false)))) 0 (.ret (.pv (.lit (.bool false))) [])))))))) (.call ⟨12, [.agg [.pv (.sym 0), .pv (.sym 1), .pv (.sym 2), .pv (.sym 3), .pv (.sym 4)]], [], .pv (.lit (.bool false)), []⟩ 0 (.alt (.call ⟨14, [.agg [.pv (.sym 5), .pv (.sym 6), .pv (.sym 7), .pv (.sym 8)]], [], .pv (.lit (.bool true)), []⟩ 0 (.call ⟨15, [.agg [.pv (.sym 5), .pv (.sym 6), .pv (.sym 7), .pv (.sym 8)]], [], .pv (.sym 9), []⟩ 1 (.call ⟨16, [.agg [.pv (.sym 0), .pv (.sym 1), .pv (.sym 2), .pv (.sym 3), .pv (.sym 4)]], [], .pv (.sym 10), []⟩ 1 (.alt (.say (.bin .eql 9 (.pv (.sym 10)) (.pv (.lit (.string ⟨#[]⟩))) (.pv (.lit (.bool true)))) 0 (.call ⟨17, [.agg [.pv (.sym 5), .pv (.sym 6), .pv (.sym 7), .pv (.sym 8)]], [], .pv (.sym 11), []⟩ 1 (.alt (.say (.bin .eql 9 (.pv (.sym 11)) (.pv (.sym 9)) (.pv (.lit (.bool true)))) 0 (.ret (.pv (.lit (.bool true))) [])) (.say (.bin .eql 9 (.pv (.sym 11)) (.pv (.sym 9)) (.pv (.lit (.bool false)))) 0 (.ret (.pv (.lit (.bool false))) []))))) (.say (.bin .eql 9 (.pv (.sym 10)) (.pv (.lit (.string ⟨#[]⟩))) (.pv (.lit (.bool false)))) 0 (.ret (.pv (.lit (.bool false))) [])))))) (.call ⟨14, [.agg [.pv (.sym 5), .pv (.sym 6), .pv (.sym 7), .pv (.sym 8)]], [], .pv (.lit (.bool false)), []⟩ 0 (.call ⟨16, [.agg [.pv (.sym 0), .pv (.sym 1), .pv (.sym 2), .pv (.sym 3), .pv (.sym 4)]], [], .pv (.sym 9), []⟩ 1 (.alt (.say (.bin .eql 9 (.pv (.sym 9)) (.pv (.lit (.string ⟨#[]⟩))) (.pv (.lit (.bool true)))) 0 (.call ⟨17, [.agg [.pv (.sym 5), .pv (.sym 6), .pv (.sym 7), .pv (.sym 8)]], [], .pv (.sym 10), []⟩ 1 (.alt (.say (.bin .eql 9 (.pv (.sym 10)) (.pv (.lit (.string ⟨#[]⟩))) (.pv (.lit (.bool true)))) 0 (.ret (.pv (.lit (.bool true))) [])) (.say (.bin .eql 9 (.pv (.sym 10)) (.pv (.lit (.string ⟨#[]⟩))) (.pv (.lit (.bool false)))) 0 (.ret (.pv (.lit (.bool false))) []))))) (.say (.bin .eql 9 (.pv (.sym 9)) (.pv (.lit (.string ⟨#[]⟩))) (.pv (.lit (.bool false)))) 0 (.ret (.pv (.lit (.bool false))) []))))))))) (.call ⟨6, [], [], .pv (.lit (.bool false)), []⟩ 0 (.ret (.pv (.lit (.bool false))) []))
def A4 : List AV := [.agg [.pv (.sym 0), .pv (.sym 1), .pv (.sym 2), .pv (.sym 3), .pv (.sym 4)], .agg [.pv (.sym 5), .pv (.sym 6), .pv (.sym 7), .pv (.sym 8)]]
def H4 : List AObj := []
set_option maxRecDepth 100000 in
theorem c4 : chk Tryz.prog (leafF Tryz.prog t4 4 A4 H4) T4 9 [] [] [] = true := by kernel_rfl
theorem F4 (x0 : PV) (x1 : PV) (x2 : PV) (x3 : PV) (x4 : PV) (x5 : PV) (x6 : PV) (x7 : PV) (x8 : PV) (hn : NSL [x0, x1, x2, x3, x4, x5, x6, x7, x8]) {v : AV} {h' : List AObj} (hd : Den Tryz.prog Tryz.f4 T4 [x0, x1, x2, x3, x4, x5, x6, x7, x8] (.ret v h')) :
    Sem Tryz.prog 4 [.agg [.pv x0, .pv x1, .pv x2, .pv x3, .pv x4], .agg [.pv x5, .pv x6, .pv x7, .pv x8]] [] v h' :=
  fun_rule f4_at f4_body mixed f4_tab (args := A4) (h := H4) (by kernel_rfl) c4 rfl hn (by simp only [A4, TsAs, TsA, nm, isRow, List.getD_cons_zero, List.getD_cons_succ, and_self, and_true]) (by trivial) hd
end Go.Proofs.YtkamjbmjjhbjcaaGreatDoor
namespace Go.Proofs.YtkamjbmjjhbjcaaGreatDoor
open Go.RowKit
set_option linter.unusedVariables false
theorem step_below {K : Kn} {h : List AObj} {w w' : World} (W : WR K h w) (hb : Below w.heap.size w w') : Step K h w K h w' := by
  have hk : ∀ i g, K.mu i = some g → w'.heap[g]? = w.heap[g]? := fun i g hm => hb.block g (W.lt i g hm)
  have hag : ∀ g o v, K.M g o = some v → g < w.heap.size := by
    intro g o v hm
    apply Decidable.byContradiction
    intro hn
    rw [W.noM (by omega)] at hm
    cases hm
  refine ⟨⟨W.fresh, W.has, fun i g hm => Nat.lt_of_lt_of_le (W.lt i g hm) hb.size, fun i ty cells hi => ?_, fun i ks vs hi => ?_, fun t ty sz len ht => ?_, W.inj, W.apart, fun g o v hm => ?_⟩, Ext.refl K, ⟨hb.os, hb.tape, hb.output, hb.size, fun k hk _ => hb.block k hk⟩, fun _ _ => ⟨rfl, rfl⟩, fun _ _ _ _ => rfl, fun _ _ h => .inl h, fun _ h _ => h, Nat.le_refl _⟩
  · obtain ⟨g, cs, h1, h2, h3⟩ := W.box i ty cells hi
    exact ⟨g, cs, h1, by rw [hk i g h1]; exact h2, h3⟩
  · obtain ⟨g, ents, clock, h1, h2, h3⟩ := W.map i ks vs hi
    exact ⟨g, ents, clock, h1, by rw [hk i g h1]; exact h2, h3⟩
  · obtain ⟨g, cs, h1, h2, h3⟩ := W.tok t ty sz len ht
    exact ⟨g, cs, h1, by rw [hk t g h1]; exact h2, h3⟩
  · rw [World.cell?_of_block (hb.block g (hag g o v hm))]; exact W.agr g o v hm
/-! strings.Join. -/
def strsOf : List AV → Option (List ByteArray)
  | [] => some []
  | .pv (.lit (.string b)) :: l => match strsOf l with
    | some r => some (b :: r)
    | none => none
  | _ :: _ => none
theorem strsOf_get : ∀ {l : List AV} {xs : List ByteArray}, strsOf l = some xs → xs.length = l.length ∧ ∀ (j : Nat) x, xs[j]? = some x → l[j]? = some (.pv (.lit (.string x)))
  | [], xs, h => by cases h; exact ⟨rfl, fun j x hx => by simp at hx⟩
  | a :: l, xs, h => by
    unfold strsOf at h
    split at h
    · rename_i e; cases e
    · rename_i b l' e
      cases e
      split at h
      · rename_i r hr
        cases h
        obtain ⟨h1, h2⟩ := strsOf_get hr
        refine ⟨by simp [h1], fun j x hx => ?_⟩
        cases j with
        | zero => simp at hx; subst hx; rfl
        | succ j => exact h2 j x (by simpa using hx)
      · cases h
    · cases h
def joinV (xs : List ByteArray) (sep : ByteArray) : ByteArray := ⟨(Lib.join (xs.map (·.data.toList)) sep.data.toList).toArray⟩
def spJ (args : List AV) (h : List AObj) : Option (AV × List AObj) := match args with
  | [.sl o lo len 1, .pv (.lit (.string sep))] => match h[o]? with
    | some (.box _ cells) => match Nat.ble (lo + len) cells.length && Nat.ble len 1000000 with
      | true => match strsOf ((cells.drop lo).take len) with
        | some xs => match Nat.ble (Lib.join (xs.map (·.data.toList)) sep.data.toList).length 140737488355328 with
          | true => some (.pv (.lit (.string (joinV xs sep))), h)
          | false => none
        | none => none
      | false => none
    | _ => none
  | [.pv (.lit (.slice none 0 0)), .pv (.lit (.string sep))] => some (.pv (.lit (.string ⟨#[]⟩)), h)
  | _ => none
theorem two_vals {K : Kn} {a b : AV} {us : List Value} (hv : VL K [a, b] us) : ∃ u v, us = [u, v] ∧ VR K a u ∧ VR K b v := by
  obtain ⟨hl, hh⟩ := hv
  match us, hl with
  | [u, v], _ => exact ⟨u, v, rfl, hh 0 (by simp) (by simp), hh 1 (by simp) (by simp)⟩
theorem lit_val {K : Kn} {v u : Value} (h : VR K (.pv (.lit v)) u) : u = v := by
  cases h with
  | pv h => cases h; rfl
theorem spJ_ok (R : Nat → PV) {args : List AV} {h : List AObj} {v : AV} {h' : List AObj} (he : spJ args h = some (v, h')) : CallOk R Tryz.prog 97 args h v h' := by
  unfold spJ at he
  split at he
  · rename_i o lo len sep
    split at he
    · rename_i ty cells hc
      split at he
      · rename_i hb
        split at he
        · rename_i xs hx
          split at he
          · rename_i hj
            cases he
            intro K w us hR W hv
            obtain ⟨u, s, rfl, h1, h2⟩ := two_vals hv
            have h2 := lit_val h2
            subst h2
            obtain ⟨hlen, hget⟩ := strsOf_get hx
            rw [Bool.and_eq_true] at hb
            have hb2 := Nat.le_of_ble_eq_true hb.2
            have hb := Nat.le_of_ble_eq_true hb.1
            have hl : xs.length = len := by rw [hlen, List.length_take, List.length_drop]; omega
            cases h1 with
            | sl _ _ _ _ g cap off hm hE hlc hz hof =>
              obtain ⟨g', cs, m1, m2, m3, m4⟩ := W.box o ty cells hc
              rw [hm] at m1
              cases m1
              have hcells : ∀ (j : Nat) x, xs[j]? = some x → w.cell? ⟨g, off + j, none⟩ = some (.string x) := by
                intro j x hxj
                have hjl : j < xs.length := (List.getElem?_eq_some_iff.1 hxj).1
                have hoff : off = lo := by rw [hof (by omega)]; omega
                have h3 := hget j x hxj
                rw [List.getElem?_take_of_lt (by omega), List.getElem?_drop] at h3
                obtain ⟨q1, q2⟩ := List.getElem?_eq_some_iff.1 h3
                have q3 : lo + j < (cs.toList.take cells.length).length := by rw [← m4.1]; exact q1
                have q4 := m4.2 (lo + j) q1 q3
                rw [q2] at q4
                have q5 := lit_val q4
                rw [List.getElem_take] at q5
                have q6 : lo + j < cs.size := by rw [List.length_take] at q3; simp at q3; omega
                subst hoff
                simp only [World.cell?, m2]
                rw [Array.getElem?_eq_getElem q6]
                exact congrArg some (by simpa using q5)
              have hcall := Tryz.strings_Join g off cap xs sep w hcells (W.lt o g hm) (by omega) (by omega) (Nat.le_of_ble_eq_true hj)
              rw [hl] at hcall
              refine hcall.mono fun e w' ⟨q, hbl⟩ => ?_
              subst q
              exact ⟨K, ⟨_, rfl, .pv (.lit _ rfl)⟩, step_below W hbl⟩
          · cases he
        · cases he
      · cases he
    · cases he
  · rename_i sep
    cases he
    intro K w us hR W hv
    obtain ⟨u, s, rfl, h1, h2⟩ := two_vals hv
    have h1 := lit_val h1
    have h2 := lit_val h2
    subst h1
    subst h2
    refine (Tryz.strings_Join_none none 0 sep w).mono fun e w' ⟨q, hw⟩ => ?_
    subst q
    subst hw
    exact ⟨K, ⟨_, rfl, .pv (.lit _ rfl)⟩, Step.refl W⟩
  · cases he
/-! int63.Text and strings.IndexByte. -/
def spT (args : List AV) (h : List AObj) : Option (AV × List AObj) := match args, h with
  | [.pv (.lit (.int .i64 n))], [] => match decide (0 ≤ n ∧ n < 4611686018427387904) with
    | true => some (.pv (.lit (.string (digs n.toNat))), [])
    | false => none
  | _, _ => none
theorem spT_ok (R : Nat → PV) {args : List AV} {h : List AObj} {v : AV} {h' : List AObj} (he : spT args h = some (v, h')) : CallOk R Tryz.prog 43 args h v h' := by
  unfold spT at he
  split at he
  · rename_i n
    split at he
    · rename_i hd
      cases he
      have hd := of_decide_eq_true hd
      exact sem_pure (vs := [.int .i64 n]) (fun a ha => by rw [List.mem_singleton.1 ha]; rfl) rfl (fun w => Lx.txt_any n hd.1 hd.2 w) R
    · cases he
  · cases he
def spI (args : List AV) (h : List AObj) : Option (AV × List AObj) := match args, h with
  | [.pv (.lit (.string s)), .pv (.lit (.int .u8 c))], [] => some (.pv (.lit (.int .i64 (Lib.indexByte s.data.toList c.toNat.toUInt8))), [])
  | _, _ => none
theorem spI_ok (R : Nat → PV) {args : List AV} {h : List AObj} {v : AV} {h' : List AObj} (he : spI args h = some (v, h')) : CallOk R Tryz.prog 175 args h v h' := by
  unfold spI at he
  split at he
  · rename_i s c
    cases he
    refine sem_pure (vs := [.string s, .int .u8 c]) (fun a ha => ?_) rfl (fun w => (Tryz.strings_IndexByte s c w).mono fun e w' ⟨q, hw⟩ => ⟨q, hw ▸ Below.refl _ _⟩) R
    simp only [List.mem_cons, List.not_mem_nil, or_false] at ha
    rcases ha with rfl | rfl <;> rfl
  · cases he
def spK (f : Nat) (args : List AV) (h : List AObj) : Option (AV × List AObj) := match Nat.beq f 97 with
  | true => spJ args h
  | false => match Nat.beq f 43 with
    | true => spT args h
    | false => match Nat.beq f 175 with
      | true => spI args h
      | false => none
theorem spK_ok (R : Nat → PV) : CallsOk R Tryz.prog spK := by
  intro f args h v h' he
  unfold spK at he
  split at he
  · rename_i hf
    rw [Nat.eq_of_beq_eq_true hf]
    exact spJ_ok R he
  · split at he
    · rename_i hf
      rw [Nat.eq_of_beq_eq_true hf]
      exact spT_ok R he
    · split at he
      · rename_i hf
        rw [Nat.eq_of_beq_eq_true hf]
        exact spI_ok R he
      · cases he
end Go.Proofs.YtkamjbmjjhbjcaaGreatDoor
namespace Go.Proofs.YtkamjbmjjhbjcaaGreatDoor
open Go.RowKit
set_option maxRecDepth 100000 in
theorem awake_run : evalF Tryz.prog okT tabT spK 100000 60 6 [] [] = some (.pv (.lit (.bool true)), []) := by kernel_rfl
theorem awake_sem : Sem Tryz.prog 6 [] [] (.pv (bv true)) [] := fun R => evalF_sound (spK_ok R) okT_ok tabT_ok (fun _ => rfl) mixed 60 _ _ _ _ _ awake_run
end Go.Proofs.YtkamjbmjjhbjcaaGreatDoor
namespace Go.Proofs.YtkamjbmjjhbjcaaGreatDoor
open Go.RowKit
set_option linter.unusedSimpArgs false
set_option linter.unusedVariables false
set_option linter.unusedSectionVars false

theorem ev_fx {q : Q} {r : Rs} {ent : Ent} {sh : Shape} {args : List AV} {h h' : List AObj} {v : AV} (he : EE q.k = ent) (hl : ent.lp = none) (hs : shp SS EE q.k r.1 = sh) (ha : openAVs (nm q.xs) ent.args = args) (hh : openH (nm q.xs) ent.h = h) (hv : openAV (nm r.2) sh.v = v) (hh' : openH (nm r.2) sh.h = h')
    (hn : q.xs.length = ent.n) (hr : ent.rin = []) (hns : NSL q.xs) (h0 : ev q = some r) : Sem Tryz.prog ent.f args h v h' ∧ NSL r.2 := by
  obtain ⟨h1, h2⟩ := ev_sound h0 ⟨by rw [he]; exact hn, hns, by rw [he, hr]; intro i hi; cases hi⟩
  refine ⟨?_, h2.ns⟩
  unfold SemQ at h1
  rw [he, hl] at h1
  simp only at h1
  rw [hs, ha, hh, hv, hh'] at h1
  exact h1
abbrev patA (x : Pt) : AV := .agg [.pv (iv x.kind), .pv (sv x.name), .pv (iv x.n), .pv (pts x.kids), .pv (iv x.at_)]
abbrev typA (x : Ty) : AV := .agg [.pv (iv x.kind), .pv (sv x.name), .pv (iv x.n), .pv (tys x.kids)]
theorem sem_gp (x : Pt) {v : PV} (h : ev (q12 (iv x.kind) (sv x.name) (iv x.n) (pts x.kids) (iv x.at_)) = some (0, [v])) : Sem Tryz.prog 12 [patA x] [] (.pv v) [] :=
  (ev_fx (q := q12 (iv x.kind) (sv x.name) (iv x.n) (pts x.kids) (iv x.at_)) (r := (0, [v])) (ent := eF 12 [(.agg (wR 0 5))] [] 5 0) (sh := yU o0 1) (by kernel_rfl) rfl (by kernel_rfl) rfl rfl rfl rfl rfl rfl (by simp [NSL_cons, NSL_nil]) h).1
theorem sem_pp (x : Pt) {v : PV} (h : ev (q13 (iv x.kind) (sv x.name) (iv x.n) (pts x.kids) (iv x.at_)) = some (0, [v])) : Sem Tryz.prog 13 [patA x] [] (.pv v) [] :=
  (ev_fx (q := q13 (iv x.kind) (sv x.name) (iv x.n) (pts x.kids) (iv x.at_)) (r := (0, [v])) (ent := eF 13 [(.agg (wR 0 5))] [] 5 2) (sh := yU o0 1) (by kernel_rfl) rfl (by kernel_rfl) rfl rfl rfl rfl rfl rfl (by simp [NSL_cons, NSL_nil]) h).1
theorem sem_gt (x : Ty) {v : PV} (h : ev (q14 (iv x.kind) (sv x.name) (iv x.n) (tys x.kids)) = some (0, [v])) : Sem Tryz.prog 14 [typA x] [] (.pv v) [] :=
  (ev_fx (q := q14 (iv x.kind) (sv x.name) (iv x.n) (tys x.kids)) (r := (0, [v])) (ent := eF 14 y0 [] 4 4) (sh := yU o0 1) (by kernel_rfl) rfl (by kernel_rfl) rfl rfl rfl rfl rfl rfl (by simp [NSL_cons, NSL_nil]) h).1
theorem sem_tt (x : Ty) {v : PV} (h : ev (q15 (iv x.kind) (sv x.name) (iv x.n) (tys x.kids)) = some (0, [v])) : Sem Tryz.prog 15 [typA x] [] (.pv v) [] :=
  (ev_fx (q := q15 (iv x.kind) (sv x.name) (iv x.n) (tys x.kids)) (r := (0, [v])) (ent := eF 15 y0 [] 4 6) (sh := yU o0 1) (by kernel_rfl) rfl (by kernel_rfl) rfl rfl rfl rfl rfl rfl (by simp [NSL_cons, NSL_nil]) h).1
theorem sem_sp (x : Pt) {v : PV} (h : ev (q16 (iv x.kind) (sv x.name) (iv x.n) (pts x.kids) (iv x.at_)) = some (0, [v])) : Sem Tryz.prog 16 [patA x] [] (.pv v) [] :=
  (ev_fx (q := q16 (iv x.kind) (sv x.name) (iv x.n) (pts x.kids) (iv x.at_)) (r := (0, [v])) (ent := eF 16 [(.agg (wR 0 5))] [] 5 8) (sh := yU o0 1) (by kernel_rfl) rfl (by kernel_rfl) rfl rfl rfl rfl rfl rfl (by simp [NSL_cons, NSL_nil]) h).1
theorem sem_st (x : Ty) {v : PV} (h : ev (q17 (iv x.kind) (sv x.name) (iv x.n) (tys x.kids)) = some (0, [v])) : Sem Tryz.prog 17 [typA x] [] (.pv v) [] :=
  (ev_fx (q := q17 (iv x.kind) (sv x.name) (iv x.n) (tys x.kids)) (r := (0, [v])) (ent := eF 17 y0 [] 4 10) (sh := yU o0 1) (by kernel_rfl) rfl (by kernel_rfl) rfl rfl rfl rfl rfl rfl (by simp [NSL_cons, NSL_nil]) h).1
theorem showtype_x (x : Ty) (hz : x.size ≤ 2000000) : ev (q17 (iv x.kind) (sv x.name) (iv x.n) (tys x.kids)) = some (0, [sv (if x.good = true then x.txt else eB)]) := by
  have hg := p_good 2000000 x hz (Nat.le_refl _)
  have ht := p_txt 2000000 x hz (Nat.le_refl _)
  unfold PGood at hg
  unfold PTxt at ht
  refine Evl.of ?_
  rw [h17, g17]
  cases h : x.good
  · rw [h] at hg
    simp [hg]
  · rw [h] at hg
    simp [hg, ht h]
theorem law_sem (p : Pt) (t : Ty) (hp : p.size ≤ 1048576) (ht : t.size ≤ 1048576) : Sem Tryz.prog 4 [patA p, typA t] [] (.pv (bv true)) [] := by
  have sa := awake_sem
  have s1 := sem_gp p (r_goodP 2000000 p (by omega) (Nat.le_refl _))
  have s2 := sem_gt t (r_good 2000000 t (by omega) (Nat.le_refl _))
  have s3 := sem_sp p (p_txtP 2000000 p (by omega) (Nat.le_refl _))
  have s4 := sem_st t (showtype_x t (by omega))
  refine F4 (iv p.kind) (sv p.name) (iv p.n) (pts p.kids) (iv p.at_) (iv t.kind) (sv t.name) (iv t.n) (tys t.kids) (by simp) ?_
  unfold T4
  rw [Den]
  refine .inl ?_
  rw [Den, exN]
  refine ⟨?_, ?_⟩
  · exact ⟨sa, trivial, trivial⟩
  rw [Den]
  cases hgp : p.good
  · rw [hgp] at s1 s3
    simp only [Bool.false_eq_true, if_false] at s3
    refine .inr ?_
    rw [Den, exN]
    refine ⟨⟨s1, trivial, trivial⟩, ?_⟩
    rw [Den]
    cases hgt : t.good
    · rw [hgt] at s2 s4
      simp only [Bool.false_eq_true, if_false] at s4
      refine .inr ?_
      rw [Den, exN]
      refine ⟨⟨s2, trivial, trivial⟩, ?_⟩
      rw [Den]
      simp only [exN, List.append_assoc, List.cons_append, List.nil_append]
      refine ⟨sv eB, ⟨⟨s3, trivial, trivial⟩, ?_⟩, by simp⟩
      rw [Den]
      refine .inl ?_
      rw [Den, exN]
      refine ⟨bin_eqs.2 (by simp), ?_⟩
      rw [Den]
      simp only [exN, List.append_assoc, List.cons_append, List.nil_append]
      refine ⟨sv eB, ⟨⟨s4, trivial, trivial⟩, ?_⟩, by simp⟩
      rw [Den]
      refine .inl ?_
      rw [Den, exN]
      refine ⟨bin_eqs.2 (by simp), ?_⟩
      rw [Den]
      exact ⟨rfl, by simp only [TsAs, TsA, and_self], trivial⟩
    · rw [hgt] at s2 s4
      simp only [if_true] at s4
      have s5 := sem_tt t (r_txt 2000000 t (by omega) (Nat.le_refl _) hgt)
      refine .inl ?_
      rw [Den, exN]
      refine ⟨⟨s2, trivial, trivial⟩, ?_⟩
      rw [Den]
      simp only [exN, List.append_assoc, List.cons_append, List.nil_append]
      refine ⟨sv t.txt, ⟨⟨s5, trivial, trivial⟩, ?_⟩, by simp⟩
      rw [Den]
      simp only [exN, List.append_assoc, List.cons_append, List.nil_append]
      refine ⟨sv eB, ⟨⟨s3, trivial, trivial⟩, ?_⟩, by simp⟩
      rw [Den]
      refine .inl ?_
      rw [Den, exN]
      refine ⟨bin_eqs.2 (by simp), ?_⟩
      rw [Den]
      simp only [exN, List.append_assoc, List.cons_append, List.nil_append]
      refine ⟨sv t.txt, ⟨⟨s4, trivial, trivial⟩, ?_⟩, by simp⟩
      rw [Den]
      refine .inl ?_
      rw [Den, exN]
      refine ⟨bin_eqs.2 (by simp), ?_⟩
      rw [Den]
      exact ⟨rfl, by simp only [TsAs, TsA, and_self], trivial⟩
  · rw [hgp] at s1 s3
    simp only [if_true] at s3
    have s6 := sem_pp p (r_txtP 2000000 p (by omega) (Nat.le_refl _) hgp)
    refine .inl ?_
    rw [Den, exN]
    refine ⟨⟨s1, trivial, trivial⟩, ?_⟩
    rw [Den]
    simp only [exN, List.append_assoc, List.cons_append, List.nil_append]
    refine ⟨sv p.txt, ⟨⟨s6, trivial, trivial⟩, ?_⟩, by simp⟩
    rw [Den]
    cases hgt : t.good
    · rw [hgt] at s2 s4
      simp only [Bool.false_eq_true, if_false] at s4
      refine .inr ?_
      rw [Den, exN]
      refine ⟨⟨s2, trivial, trivial⟩, ?_⟩
      rw [Den]
      simp only [exN, List.append_assoc, List.cons_append, List.nil_append]
      refine ⟨sv p.txt, ⟨⟨s3, trivial, trivial⟩, ?_⟩, by simp⟩
      rw [Den]
      refine .inl ?_
      rw [Den, exN]
      refine ⟨bin_eqs.2 (by simp), ?_⟩
      rw [Den]
      simp only [exN, List.append_assoc, List.cons_append, List.nil_append]
      refine ⟨sv eB, ⟨⟨s4, trivial, trivial⟩, ?_⟩, by simp⟩
      rw [Den]
      refine .inl ?_
      rw [Den, exN]
      refine ⟨bin_eqs.2 (by simp), ?_⟩
      rw [Den]
      exact ⟨rfl, by simp only [TsAs, TsA, and_self], trivial⟩
    · rw [hgt] at s2 s4
      simp only [if_true] at s4
      have s5 := sem_tt t (r_txt 2000000 t (by omega) (Nat.le_refl _) hgt)
      refine .inl ?_
      rw [Den, exN]
      refine ⟨⟨s2, trivial, trivial⟩, ?_⟩
      rw [Den]
      simp only [exN, List.append_assoc, List.cons_append, List.nil_append]
      refine ⟨sv t.txt, ⟨⟨s5, trivial, trivial⟩, ?_⟩, by simp⟩
      rw [Den]
      simp only [exN, List.append_assoc, List.cons_append, List.nil_append]
      refine ⟨sv p.txt, ⟨⟨s3, trivial, trivial⟩, ?_⟩, by simp⟩
      rw [Den]
      refine .inl ?_
      rw [Den, exN]
      refine ⟨bin_eqs.2 (by simp), ?_⟩
      rw [Den]
      simp only [exN, List.append_assoc, List.cons_append, List.nil_append]
      refine ⟨sv t.txt, ⟨⟨s4, trivial, trivial⟩, ?_⟩, by simp⟩
      rw [Den]
      refine .inl ?_
      rw [Den, exN]
      refine ⟨bin_eqs.2 (by simp), ?_⟩
      rw [Den]
      exact ⟨rfl, by simp only [TsAs, TsA, and_self], trivial⟩
end Go.Proofs.YtkamjbmjjhbjcaaGreatDoor
