/- Joined texts. -/
import Derived.Test.YtijcobeebaceoaaGreatDoorKy0
import Derived.KernelRfl
import Derived.Test.YtijcobeebaceoaaGreatDoorBw
import Derived.Test.YtijcobeebaceoaaGreatDoorBu
import Derived.Test.YtijcobeebaceoaaGreatDoorBe
import Derived.Test.YtijcobeebaceoaaGreatDoorBm
namespace Go.Proofs.YtijcobeebaceoaaGreatDoor
open Go.RowKit
set_option linter.unusedSimpArgs false
set_option linter.unusedVariables false

def T7 : Tr := .call ⟨20, [.pv (.sym 0), .fn 21 []], [], .tup [.agg [.pv (.sym 1), .pv (.sym 2), .pv (.sym 3), .pv (.sym 4)], .agg [.pv (.sym 5), .pv (.sym 6)]], []⟩ 6 (.ret (.tup [.agg [.pv (.sym 1), .pv (.sym 2), .pv (.sym 3), .pv (.sym 4)], .agg [.pv (.sym 5), .pv (.sym 6)]]) [])
def A7 : List AV := [.pv (.sym 0)]
def H7 : List AObj := []
set_option maxRecDepth 100000 in
theorem c7 : chk Tryz.prog (leafF Tryz.prog t7 7 A7 H7) T7 1 [] [] [] = true := by kernel_rfl
def T20a : Tr := .call ⟨42, [.pv (.sym 0)], [], .tup [.pv (.sym 1), .agg [.pv (.sym 2), .pv (.sym 3)]], []⟩ 3 (.alt (.say (.bin .neq 26 (.pv (.sym 2)) (.pv (.lit (.int .i64 0))) (.pv (.lit (.bool true)))) 0 (.ret (.tup [.agg [.pv (.lit (.int .i64 0)), .pv (.lit (.string ⟨#[]⟩)), .pv (.lit (.int .i64 0)), .pv (.lit (.slice none 0 0))], .agg [.pv (.sym 2), .pv (.sym 3)]]) [])) (.say (.bin .neq 26 (.pv (.sym 2)) (.pv (.lit (.int .i64 0))) (.pv (.lit (.bool false)))) 0 (.alt (.call ⟨21, [.ptr 0 0], [.box 113 [.pv (.sym 1), .pv (.lit (.int .i64 0)), .pv (.lit (.int .i64 0))]], .agg [.pv (.sym 7), .pv (.sym 8), .pv (.sym 9), .pv (.sym 10)], [.box 113 [.pv (.sym 4), .pv (.sym 5), .pv (.sym 6)]]⟩ 7 (.alt (.call ⟨44, [.ptr 0 0, .pv (.lit (.int .i64 0))], [.box 113 [.pv (.sym 4), .pv (.sym 5), .pv (.sym 6)]], .agg [.pv (.sym 14), .pv (.sym 15), .pv (.sym 16), .pv (.sym 17)], [.box 113 [.pv (.sym 11), .pv (.sym 12), .pv (.sym 13)]]⟩ 7 (.ret (.tup [.agg [.pv (.sym 7), .pv (.sym 8), .pv (.sym 9), .pv (.sym 10)], .agg [.pv (.lit (.int .i64 0)), .pv (.lit (.int .i64 0))]]) [])) (.call ⟨44, [.ptr 0 0, .pv (.lit (.int .i64 0))], [.box 113 [.pv (.sym 4), .pv (.sym 5), .pv (.sym 6)]], .tup [.tup [], .ifc 28 (.agg [.pv (.sym 14), .pv (.sym 15)])], [.box 113 [.pv (.sym 11), .pv (.sym 12), .pv (.sym 13)]]⟩ 5 (.ret (.tup [.agg [.pv (.lit (.int .i64 0)), .pv (.lit (.string ⟨#[]⟩)), .pv (.lit (.int .i64 0)), .pv (.lit (.slice none 0 0))], .agg [.pv (.sym 14), .pv (.sym 15)]]) [])))) (.call ⟨21, [.ptr 0 0], [.box 113 [.pv (.sym 1), .pv (.lit (.int .i64 0)), .pv (.lit (.int .i64 0))]], .tup [.tup [], .ifc 28 (.agg [.pv (.sym 7), .pv (.sym 8)])], [.box 113 [.pv (.sym 4), .pv (.sym 5), .pv (.sym 6)]]⟩ 5 (.ret (.tup [.agg [.pv (.lit (.int .i64 0)), .pv (.lit (.string ⟨#[]⟩)), .pv (.lit (.int .i64 0)), .pv (.lit (.slice none 0 0))], .agg [.pv (.sym 7), .pv (.sym 8)]]) [])))))
def A20a : List AV := [.pv (.sym 0), .fn 21 []]
def H20a : List AObj := []
set_option maxRecDepth 100000 in
theorem c20a : chk Tryz.prog (leafF Tryz.prog t20 20 A20a H20a) T20a 1 [] [] [] = true := by kernel_rfl
end Go.Proofs.YtijcobeebaceoaaGreatDoor
namespace Go.Proofs.YtijcobeebaceoaaGreatDoor
open Go.RowKit
set_option linter.unusedVariables false
def t3 : FT where
  keep := []
  kb := fun
    | _ => []
  sd := fun
    | _ => []
theorem f3_at : Tryz.prog.funcs[3]? = some Tryz.f3 := by kernel_rfl
theorem f3_body : Tryz.f3.body.isSome = true := by kernel_rfl
theorem f3_tab : tabOk t3.sd t3.sx (bodyOf Tryz.f3) = true := by kernel_rfl
-- paths: 6
def T3 : Tr := .alt (.call ⟨6, [], [], .pv (.lit (.bool true)), []⟩ 0 (.say (.len 9 (.pv (.sym 0)) (.pv (.sym 1))) 1 (.alt (.say (.bin .gtr 3 (.pv (.sym 1)) (.pv (.lit (.int .i64 4000))) (.pv (.lit (.bool true)))) 0 (.ret (.pv (.lit (.bool true))) [])) (.say (.bin .gtr 3 (.pv (.sym 1)) (.pv (.lit (.int .i64 4000))) (.pv (.lit (.bool false)))) 0 (.call ⟨7, [.pv (.sym 0)], [], .tup [.agg [.pv (.sym 2), .pv (.sym 3), .pv (.sym 4), .pv (.sym 5)], .agg [.pv (.sym 6), .pv (.sym 7)]], []⟩ 6 (.call ⟨8, [.pv (.sym 0)], [], .tup [.agg [.pv (.sym 8), .pv (.sym 9), .pv (.sym 10), .pv (.sym 11)], .pv (.sym 12), .pv (.sym 13)], []⟩ 6 (.alt (.say (.bin .eql 3 (.pv (.sym 6)) (.pv (.sym 12)) (.pv (.lit (.bool true)))) 0 (.alt (.say (.bin .eql 3 (.pv (.sym 7)) (.pv (.sym 13)) (.pv (.lit (.bool true)))) 0 (.alt (.call ⟨9, [.agg [.pv (.sym 2), .pv (.sym 3), .pv (.sym 4), .pv (.sym 5)], .agg [.pv (.sym 8), .pv (.sym 9), .pv (.sym 10), .pv (.sym 11)]], [], .pv (.lit (.bool true)), []⟩ 0 (.ret (.pv (.lit (.bool true))) [])) (.call ⟨9, [.agg [.pv (.sym 2), .pv (.sym 3), .pv (.sym 4), .pv (.sym 5)], .agg [.pv (.sym 8), .pv (.sym 9), .pv (.sym 10), .pv (.sym 11)]], [], .pv (.lit (.bool false)), []⟩ 0 (.ret (.pv (.lit (.bool false))) [])))) (.say (.bin .eql 3 (.pv (.sym 7)) (.pv (.sym 13)) (.pv (.lit (.bool false)))) 0 (.ret (.pv (.lit (.bool false))) [])))) (.say (.bin .eql 3 (.pv (.sym 6)) (.pv (.sym 12)) (.pv (.lit (.bool false)))) 0 (.ret (.pv (.lit (.bool false))) []))))))))) (.call ⟨6, [], [], .pv (.lit (.bool false)), []⟩ 0 (.ret (.pv (.lit (.bool false))) []))
def A3 : List AV := [.pv (.sym 0)]
def H3 : List AObj := []
set_option maxRecDepth 100000 in
theorem c3 : chk Tryz.prog (leafF Tryz.prog t3 3 A3 H3) T3 1 [] [] [] = true := by kernel_rfl
theorem F3 (x0 : PV) (hn : NSL [x0]) {v : AV} {h' : List AObj} (hd : Den Tryz.prog Tryz.f3 T3 [x0] (.ret v h')) :
    Sem Tryz.prog 3 [.pv x0] [] v h' :=
  fun_rule f3_at f3_body mixed f3_tab (args := A3) (h := H3) (by kernel_rfl) c3 rfl hn (by simp only [A3, TsAs, TsA, nm, isRow, List.getD_cons_zero, List.getD_cons_succ, and_self, and_true]) (by trivial) hd
end Go.Proofs.YtijcobeebaceoaaGreatDoor
namespace Go.Proofs.YtijcobeebaceoaaGreatDoor
open Go.RowKit
set_option linter.unusedSimpArgs false
set_option linter.unusedVariables false
set_option linter.unusedSectionVars false

theorem F7 (x0 : PV) (hn : NSL [x0]) {v : AV} {h' : List AObj} (hd : Den Tryz.prog Tryz.f7 T7 [x0] (.ret v h')) : Sem Tryz.prog 7 [.pv x0] [] v h' :=
  fun_rule f7_at f7_body mixed f7_tab (args := A7) (h := H7) (by kernel_rfl) c7 rfl hn (by simp only [A7, TsAs, TsA, nm, isRow, List.getD_cons_zero, List.getD_cons_succ, and_self, and_true]) (by trivial) hd
theorem F20a (x0 : PV) (hn : NSL [x0]) {v : AV} {h' : List AObj} (hd : Den Tryz.prog Tryz.f20 T20a [x0] (.ret v h')) : Sem Tryz.prog 20 [.pv x0, .fn 21 []] [] v h' :=
  fun_rule f20_at f20_body mixed f20_tab (args := A20a) (h := H20a) (by kernel_rfl) c20a rfl hn (by simp only [A20a, TsAs, TsA, nm, isRow, List.getD_cons_zero, List.getD_cons_succ, and_self, and_true]) (by trivial) hd
theorem ev_fx {q : Q} {r : Rs} {ent : Ent} {sh : Shape} {args : List AV} {h h' : List AObj} {v : AV} (he : EE q.k = ent) (hl : ent.lp = none) (hs : shp SS EE q.k r.1 = sh) (ha : openAVs (nm q.xs) ent.args = args) (hh : openH (nm q.xs) ent.h = h) (hv : openAV (nm r.2) sh.v = v) (hh' : openH (nm r.2) sh.h = h')
    (hn : q.xs.length = ent.n) (hr : ent.rin = []) (hns : NSL q.xs) (h0 : ev q = some r) : Sem Tryz.prog ent.f args h v h' ∧ NSL r.2 := by
  obtain ⟨h1, h2⟩ := ev_sound h0 ⟨by rw [he]; exact hn, hns, by rw [he, hr]; intro i hi; cases hi⟩
  refine ⟨?_, h2.ns⟩
  unfold SemQ at h1
  rw [he, hl] at h1
  simp only at h1
  rw [hs, ha, hh, hv, hh'] at h1
  exact h1
theorem typ_ok {L : List Tk} {a : Nat} {d : Int} {b : Nat} {d' : Int} {v : Ty} (h : ev (pTy L a d) = some (0, ps L b d' (tyC v))) : Sem Tryz.prog 21 [.ptr 0 0] [.box 113 [.pv (tks L), .pv (iv a), .pv (iv d)]] (.agg [.pv (iv v.kind), .pv (sv v.name), .pv (iv v.n), .pv (tys v.kids)]) [.box 113 [.pv (tks L), .pv (iv b), .pv (iv d')]] :=
  (ev_fx (q := pTy L a d) (ent := en73) (sh := yV (.agg (wR 3 4)) [b113_3 0] 7) (by kernel_rfl) rfl (by kernel_rfl) rfl rfl rfl rfl rfl rfl (by simp [NSL_cons, NSL_nil]) h).1
theorem typ_bad {L : List Tk} {a : Nat} {d : Int} {b : Nat} {d' e w : Int} (h : ev (pTy L a d) = some (1, ps L b d' [iv e, iv w])) : Sem Tryz.prog 21 [.ptr 0 0] [.box 113 [.pv (tks L), .pv (iv a), .pv (iv d)]] (.tup [.tup [], .ifc 28 (.agg [.pv (iv e), .pv (iv w)])]) [.box 113 [.pv (tks L), .pv (iv b), .pv (iv d')]] :=
  (ev_fx (q := pTy L a d) (ent := en73) (sh := yV (.tup y0) [b113_3 0] 5) (by kernel_rfl) rfl (by kernel_rfl) rfl rfl rfl rfl rfl rfl (by simp [NSL_cons, NSL_nil]) h).1
theorem kind_ok {L : List Tk} (hW : WfL L) {a : Nat} (h : a < L.length) (d : Int) (hk : (tkAt L a).kind = 0) : Sem Tryz.prog 44 [.ptr 0 0, .pv (iv 0)] [.box 113 [.pv (tks L), .pv (iv a), .pv (iv d)]] (.agg [.pv (iv (tkAt L a).kind), .pv (sv (tkAt L a).text), .pv (iv (tkAt L a).n), .pv (iv (tkAt L a).at_)]) [.box 113 [.pv (tks L), .pv (iv (a + 1 : Nat)), .pv (iv d)]] :=
  (ev_fx (q := q44a (iv 0) (tks L) (iv a) (iv d)) (r := (1, tks L :: iv (a + 1 : Nat) :: iv d :: (tkAt L a).cells)) (ent := eF 44 [(rA 0),o0] [b113_3 1] 4 1) (sh := yV (.agg (wR 3 4)) [b113_3 0] 7) (by kernel_rfl) rfl (by kernel_rfl) rfl rfl rfl rfl rfl rfl (by simp [NSL_cons, NSL_nil]) ((p_kind hW h 0 (iv d)).trans (by rw [if_pos hk]))).1
theorem kind_bad {L : List Tk} (hW : WfL L) {a : Nat} (h : a < L.length) (d : Int) (hk : ¬ (tkAt L a).kind = 0) : Sem Tryz.prog 44 [.ptr 0 0, .pv (iv 0)] [.box 113 [.pv (tks L), .pv (iv a), .pv (iv d)]] (.tup [.tup [], .ifc 28 (.agg [.pv (iv 110), .pv (iv (tkAt L a).at_)])]) [.box 113 [.pv (tks L), .pv (iv a), .pv (iv d)]] :=
  (ev_fx (q := q44a (iv 0) (tks L) (iv a) (iv d)) (r := (0, [tks L, iv a, iv d, iv 110, iv (tkAt L a).at_])) (ent := eF 44 [(rA 0),o0] [b113_3 1] 4 1) (sh := yV (.tup y0) [b113_3 0] 5) (by kernel_rfl) rfl (by kernel_rfl) rfl rfl rfl rfl rfl rfl (by simp [NSL_cons, NSL_nil]) ((p_kind hW h 0 (iv d)).trans (by rw [if_neg hk]))).1
/-- What both parsers answer. -/
def ansV : Rz Ty → AV
  | .ok v _ => .tup [.agg [.pv (iv v.kind), .pv (sv v.name), .pv (iv v.n), .pv (tys v.kids)], .agg [.pv (iv 0), .pv (iv 0)]]
  | .err e w => .tup [.agg [.pv (iv 0), .pv (sv eB), .pv (iv 0), .pv nS], .agg [.pv (iv e), .pv (iv w)]]
  | .out => .tup []
theorem scanT_of {b : ByteArray} {L : List Tk} (h : scanT b = .ok L) : ∃ ts, Lx.scanP b = .ok ts ∧ ts.map ofTok = L := by
  unfold scanT at h
  split at h
  · rename_i ts hs; cases h; exact ⟨ts, hs, rfl⟩
  · cases h
theorem scanT_no {b : ByteArray} {p : Int × Nat} (h : scanT b = .error p) : Lx.scanP b = .error p := by
  unfold scanT at h
  split at h
  · cases h
  · rename_i q hs; cases h; exact hs
theorem whole_sem (b : ByteArray) (hb : b.size ≤ maxLen) : Sem Tryz.prog 20 [.pv (sv b), .fn 21 []] [] (ansV (typS b)) [] := by
  refine F20a (sv b) (by simp) ?_
  have sc := scan_sem b hb (fun ts h => by
    have h2 : scanT b = .ok (ts.map ofTok) := by unfold scanT; rw [h]
    have hp := (scanT_ok h2).2.2.pos
    intro e
    rw [e] at hp
    exact absurd hp (by decide))
  unfold T20a typS
  rw [Den]
  simp only [exN, List.append_assoc, List.cons_append, List.nil_append]
  cases ht : scanT b with
  | error p =>
    obtain ⟨c, p⟩ := p
    have hc := scanT_bad ht
    rw [scanT_no ht] at sc
    refine ⟨nS, iv c, iv p, ⟨⟨⟨⟨⟨sc, trivial, trivial⟩, ?_⟩, by simp⟩, by simp⟩, by simp⟩⟩
    rw [Den]
    refine .inl ?_
    rw [Den, exN]
    refine ⟨bin_neq.2 (by simp [hc]), ?_⟩
    rw [Den]
    exact ⟨rfl, by simp only [TsAs, TsA, and_self], trivial⟩
  | ok L =>
    obtain ⟨ts, hs, rfl⟩ := scanT_of ht
    obtain ⟨hz, hl, hW⟩ := scanT_ok ht
    rw [hs] at sc
    obtain ⟨L, hL⟩ : ∃ L, L = ts.map ofTok := ⟨_, rfl⟩
    rw [← hL] at hl hW ⊢
    have sc : Sem Tryz.prog 42 [.pv (sv b)] [] (.tup [.pv (tks L), .agg [.pv (iv 0), .pv (iv 0)]]) [] := by rw [hL]; exact sc
    clear hL
    refine ⟨tks L, iv 0, iv 0, ⟨⟨⟨⟨⟨sc, trivial, trivial⟩, ?_⟩, by simp⟩, by simp⟩, by simp⟩⟩
    rw [Den]
    refine .inr ?_
    rw [Den, exN]
    refine ⟨bin_neq.2 (by simp), ?_⟩
    have hP := (p_all hW (2 * L.length + 2) (by omega)).ty 0 0 (by decide) (by decide) hW.pos
    have hno := (types_no L (2 * L.length + 2) (by omega)).1 0 0 (by omega)
    rw [Den]
    simp only
    cases hr : typeF L (2 * L.length + 2) 0 0 with
    | out => exact absurd hr hno
    | err e w =>
      rw [hr] at hP
      obtain ⟨a, d, hP⟩ := hP
      have s1 := typ_bad hP
      refine .inr ?_
      rw [Den]
      simp only [exN, List.append_assoc, List.cons_append, List.nil_append]
      refine ⟨tks L, iv a, iv d, iv e, iv w, ⟨⟨⟨⟨⟨⟨⟨s1, by trivial, by trivial⟩, ?_⟩, by simp⟩, by simp⟩, by simp⟩, by simp⟩, by simp⟩⟩
      rw [Den]
      exact ⟨rfl, by simp only [TsAs, TsA, and_self], trivial⟩
    | ok v a =>
      rw [hr] at hP
      obtain ⟨ha, hP⟩ := hP
      have s1 := typ_ok hP
      refine .inl ?_
      rw [Den]
      simp only [exN, List.append_assoc, List.cons_append, List.nil_append]
      refine ⟨tks L, iv a, iv 0, iv v.kind, sv v.name, iv v.n, tys v.kids, ⟨⟨⟨⟨⟨⟨⟨⟨⟨s1, by trivial, by trivial⟩, ?_⟩, by simp⟩, by simp⟩, by simp⟩, by simp⟩, by simp⟩, by simp⟩, by simp⟩⟩
      rw [Den]
      unfold endF
      rw [Rz.bind_ok]
      by_cases hk : (tkAt L a).kind = 0
      · rw [if_pos hk]
        have s2 := kind_ok hW ha 0 hk
        refine .inl ?_
        rw [Den]
        simp only [exN, List.append_assoc, List.cons_append, List.nil_append]
        refine ⟨tks L, iv (a + 1 : Nat), iv 0, iv (tkAt L a).kind, sv (tkAt L a).text, iv (tkAt L a).n, iv (tkAt L a).at_, ⟨⟨⟨⟨⟨⟨⟨⟨⟨s2, by trivial, by trivial⟩, ?_⟩, by simp⟩, by simp⟩, by simp⟩, by simp⟩, by simp⟩, by simp⟩, by simp⟩⟩
        rw [Den]
        exact ⟨rfl, by simp only [TsAs, TsA, and_self], trivial⟩
      · rw [if_neg hk]
        have s2 := kind_bad hW ha 0 hk
        refine .inr ?_
        rw [Den]
        simp only [exN, List.append_assoc, List.cons_append, List.nil_append]
        refine ⟨tks L, iv a, iv 0, iv 110, iv (tkAt L a).at_, ⟨⟨⟨⟨⟨⟨⟨s2, by trivial, by trivial⟩, ?_⟩, by simp⟩, by simp⟩, by simp⟩, by simp⟩, by simp⟩⟩
        rw [Den]
        exact ⟨rfl, by simp only [TsAs, TsA, and_self], trivial⟩
theorem ptype_sem (b : ByteArray) (hb : b.size ≤ maxLen) : Sem Tryz.prog 7 [.pv (sv b)] [] (ansV (typS b)) [] := by
  have hw := whole_sem b hb
  refine F7 (sv b) (by simp) ?_
  unfold T7
  rw [Den]
  simp only [exN, List.append_assoc, List.cons_append, List.nil_append]
  have hx := type_x b
  cases hr : typS b with
  | out => rw [hr] at hx; exact hx.elim
  | ok v a =>
    rw [hr] at hw
    refine ⟨iv v.kind, sv v.name, iv v.n, tys v.kids, iv 0, iv 0, ⟨⟨⟨⟨⟨⟨⟨⟨hw, by trivial, by trivial⟩, ?_⟩, by simp⟩, by simp⟩, by simp⟩, by simp⟩, by simp⟩, by simp⟩⟩
    rw [Den]
    exact ⟨rfl, by simp only [TsAs, TsA, and_self], trivial⟩
  | err e w =>
    rw [hr] at hw
    refine ⟨iv 0, sv eB, iv 0, nS, iv e, iv w, ⟨⟨⟨⟨⟨⟨⟨⟨hw, by trivial, by trivial⟩, ?_⟩, by simp⟩, by simp⟩, by simp⟩, by simp⟩, by simp⟩, by simp⟩⟩
    rw [Den]
    exact ⟨rfl, by simp only [TsAs, TsA, and_self], trivial⟩
/-- What the reference answers. -/
def ansR : Rz Ty → AV
  | .ok v _ => .tup [.agg [.pv (iv v.kind), .pv (sv v.name), .pv (iv v.n), .pv (tys v.kids)], .pv (iv 0), .pv (iv 0)]
  | .err e w => .tup [.agg [.pv (iv 0), .pv (sv eB), .pv (iv 0), .pv nS], .pv (iv e), .pv (iv w)]
  | .out => .tup []
theorem rtype_ev {b : ByteArray} {x y z u e w : PV} (h : ev (q8 (sv b)) = some (0, [x, y, z, u, e, w])) : Sem Tryz.prog 8 [.pv (sv b)] [] (.tup [.agg [.pv x, .pv y, .pv z, .pv u], .pv e, .pv w]) [] :=
  (ev_fx (q := q8 (sv b)) (ent := eF 8 [o0] [] 1 13) (sh := yU (.tup [(.agg (wR 0 4)),o4,o5]) 6) (by kernel_rfl) rfl (by kernel_rfl) rfl rfl rfl rfl rfl rfl (by simp [NSL_cons, NSL_nil]) h).1
theorem rtype_sem (b : ByteArray) : Sem Tryz.prog 8 [.pv (sv b)] [] (ansR (typS b)) [] := by
  have hx := type_x b
  cases hr : typS b with
  | out => rw [hr] at hx; exact hx.elim
  | ok v a => rw [hr] at hx; exact rtype_ev hx.1
  | err e w => rw [hr] at hx; exact rtype_ev hx.2
theorem same_sem (x y z u : PV) (hn : NSL [x, y, z, u]) (h : ev (q9 x y z u x y z u) = some (0, [bv true])) : Sem Tryz.prog 9 [.agg [.pv x, .pv y, .pv z, .pv u], .agg [.pv x, .pv y, .pv z, .pv u]] [] (.pv (bv true)) [] :=
  (ev_fx (q := q9 x y z u x y z u) (r := (0, [bv true])) (ent := eF 9 [(.agg (wR 0 4)),(.agg (wR 4 4))] [] 8 61) (sh := yU o0 1) (by kernel_rfl) rfl (by kernel_rfl) rfl rfl rfl rfl rfl rfl (by obtain ⟨a, b, c, d⟩ := (by simpa [NSL_cons, NSL_nil] using hn : _ ∧ _ ∧ _ ∧ _); simp [NSL_cons, NSL_nil, a, b, c, d]) h).1
theorem len_nil {r : AV} : LenOk Tryz.prog 23 (.pv nS) r ↔ r = .pv (.lit (.int .i64 0)) := by
  have hl : ∀ ty, builtinA Tryz.prog .len #[23] ty [.pv nS] = some (.pv (.lit (.int .i64 0))) := fun ty => by kernel_rfl
  constructor
  · intro h; have := h 0; rw [hl] at this; exact (Option.some.inj this).symm
  · intro h ty; rw [hl, h]
@[simp] theorem lenK_nil {β : Type} {d : β} {k : AV → β} : lenK Tryz.prog d 23 (.pv nS) k = k (.pv (iv 0)) := lenK_of (fun _ => len_nil) (nsa_lit _)
theorem zero_same : ev (q9 (iv 0) (sv eB) (iv 0) nS (iv 0) (sv eB) (iv 0) nS) = some (0, [bv true]) := by
  have h1 : ev (q25b0a (iv 0) nS nS) = some (1, []) := Evl.of (by rw [h25b0a, g25b0a]; simp)
  have h2 : ev (q25 nS nS) = some (0, [bv true]) := Evl.of (by rw [h25, g25]; simp [h1])
  exact Evl.of (by rw [h9, g9]; simp [h2])
end Go.Proofs.YtijcobeebaceoaaGreatDoor
