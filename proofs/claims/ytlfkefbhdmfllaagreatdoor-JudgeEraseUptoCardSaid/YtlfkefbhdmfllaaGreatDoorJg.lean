/- The law: erasing. -/
import Derived.Test.YtlfkefbhdmfllaaGreatDoorJf
import Derived.Test.YtlfkefbhdmfllaaGreatDoorBe
import Derived.Test.YtlfkefbhdmfllaaGreatDoorJy
import Derived.Test.YtlfkefbhdmfllaaGreatDoorJx1
namespace Go.Proofs.YtlfkefbhdmfllaaGreatDoor
open Go.RowKit
set_option linter.unusedSimpArgs false
set_option linter.unusedVariables false

theorem ev_fx {q : Q} {r : Rs} {ent : Ent} {sh : Shape} {args : List AV} {h h' : List AObj} {v : AV} (he : EE q.k = ent) (hl : ent.lp = none) (hs : shp SS EE q.k r.1 = sh) (ha : openAVs (nm q.xs) ent.args = args) (hh : openH (nm q.xs) ent.h = h) (hv : openAV (nm r.2) sh.v = v) (hh' : openH (nm r.2) sh.h = h')
    (hn : q.xs.length = ent.n) (hr : ent.rin = []) (hns : NSL q.xs) (h0 : ev q = some r) : Sem Tryz.prog ent.f args h v h' ∧ NSL r.2 := by
  obtain ⟨h1, h2⟩ := ev_sound h0 ⟨by rw [he]; exact hn, hns, by rw [he, hr]; intro i hi; cases hi⟩
  refine ⟨?_, h2.ns⟩
  unfold SemQ at h1
  rw [he, hl] at h1
  simp only at h1
  rw [hs, ha, hh, hv, hh'] at h1
  exact h1
theorem awake_sem : Sem Tryz.prog 4 [] [] (.pv (bv true)) [] := fun R => evalF_sound (sp0_ok R) okT_ok tabT_ok (fun _ => rfl) mixed 60 _ _ _ _ _ awake_run
theorem sem5 (x : Tx) {b : Bool} (h : ev (q5 (iv x.kind) (sv x.name) (iv x.n) (iv x.t.kind) (sv x.t.name) (iv x.t.n) (tys x.t.kids) (tys x.ts) (txs x.kids) (tas x.alts) (tbs x.binds) (iv x.at_) (iv 500)) = some (0, [bv b])) : Sem Tryz.prog 5 [.agg [.pv (iv x.kind), .pv (sv x.name), .pv (iv x.n), .pv (iv x.t.kind), .pv (sv x.t.name), .pv (iv x.t.n), .pv (tys x.t.kids), .pv (tys x.ts), .pv (txs x.kids), .pv (tas x.alts), .pv (tbs x.binds), .pv (iv x.at_)], .pv (iv 500)] [] (.pv (bv b)) [] :=
  (ev_fx (q := q5 (iv x.kind) (sv x.name) (iv x.n) (iv x.t.kind) (sv x.t.name) (iv x.t.n) (tys x.t.kids) (tys x.ts) (txs x.kids) (tas x.alts) (tbs x.binds) (iv x.at_) (iv 500)) (r := (0, [bv b])) (ent := eF 5 [(.agg (wR 0 12)),o12] [] 13 0) (sh := { v := .pv (.sym 0), m := 1 }) (by kernel_rfl) rfl (by kernel_rfl) rfl rfl rfl rfl rfl rfl (by simp [NSL_cons, NSL_nil]) h).1
theorem sem6 (x : Tx) (h : P_ok x) : Sem Tryz.prog 6 [.agg [.pv (iv x.kind), .pv (sv x.name), .pv (iv x.n), .pv (iv x.t.kind), .pv (sv x.t.name), .pv (iv x.t.n), .pv (tys x.t.kids), .pv (tys x.ts), .pv (txs x.kids), .pv (tas x.alts), .pv (tbs x.binds), .pv (iv x.at_)]] [] (.agg [.pv (iv x.er.kind), .pv (sv x.er.name), .pv (iv x.er.n), .pv (iv x.er.t.kind), .pv (sv x.er.t.name), .pv (iv x.er.t.n), .pv (tys x.er.t.kids), .pv (exs x.er.kids), .pv (als x.er.alts), .pv (bds x.er.binds), .pv (iv x.er.at_)]) [] :=
  (ev_fx (q := q6w (iv x.kind) (sv x.name) (iv x.n) (iv x.t.kind) (sv x.t.name) (iv x.t.n) (tys x.t.kids) (tys x.ts) (txs x.kids) (tas x.alts) (tbs x.binds) (iv x.at_)) (r := (0, [iv x.er.kind, sv x.er.name, iv x.er.n, iv x.er.t.kind, sv x.er.t.name, iv x.er.t.n, tys x.er.t.kids, exs x.er.kids, als x.er.alts, bds x.er.binds, iv x.er.at_])) (ent := en87) (sh := { v := .agg [.pv (.sym 0), .pv (.sym 1), .pv (.sym 2), .pv (.sym 3), .pv (.sym 4), .pv (.sym 5), .pv (.sym 6), .pv (.sym 7), .pv (.sym 8), .pv (.sym 9), .pv (.sym 10)], m := 11 }) (by kernel_rfl) rfl (by kernel_rfl) rfl rfl rfl rfl rfl rfl (by simp [NSL_cons, NSL_nil]) h).1
theorem sem7 (x : Tx) (h : R_ok x) : Sem Tryz.prog 7 [.agg [.pv (iv x.kind), .pv (sv x.name), .pv (iv x.n), .pv (iv x.t.kind), .pv (sv x.t.name), .pv (iv x.t.n), .pv (tys x.t.kids), .pv (tys x.ts), .pv (txs x.kids), .pv (tas x.alts), .pv (tbs x.binds), .pv (iv x.at_)]] [] (.agg [.pv (iv x.er.kind), .pv (sv x.er.name), .pv (iv x.er.n), .pv (iv x.er.t.kind), .pv (sv x.er.t.name), .pv (iv x.er.t.n), .pv (tys x.er.t.kids), .pv (exs x.er.kids), .pv (als x.er.alts), .pv (bds x.er.binds), .pv (iv x.er.at_)]) [] :=
  (ev_fx (q := q7w (iv x.kind) (sv x.name) (iv x.n) (iv x.t.kind) (sv x.t.name) (iv x.t.n) (tys x.t.kids) (tys x.ts) (txs x.kids) (tas x.alts) (tbs x.binds) (iv x.at_)) (r := (0, [iv x.er.kind, sv x.er.name, iv x.er.n, iv x.er.t.kind, sv x.er.t.name, iv x.er.t.n, tys x.er.t.kids, exs x.er.kids, als x.er.alts, bds x.er.binds, iv x.er.at_])) (ent := en89) (sh := { v := .agg [.pv (.sym 0), .pv (.sym 1), .pv (.sym 2), .pv (.sym 3), .pv (.sym 4), .pv (.sym 5), .pv (.sym 6), .pv (.sym 7), .pv (.sym 8), .pv (.sym 9), .pv (.sym 10)], m := 11 }) (by kernel_rfl) rfl (by kernel_rfl) rfl rfl rfl rfl rfl rfl (by simp [NSL_cons, NSL_nil]) h).1
theorem sem8 (e : Ex) (h : SamE e) : Sem Tryz.prog 8 [.agg [.pv (iv e.kind), .pv (sv e.name), .pv (iv e.n), .pv (iv e.t.kind), .pv (sv e.t.name), .pv (iv e.t.n), .pv (tys e.t.kids), .pv (exs e.kids), .pv (als e.alts), .pv (bds e.binds), .pv (iv e.at_)], .agg [.pv (iv e.kind), .pv (sv e.name), .pv (iv e.n), .pv (iv e.t.kind), .pv (sv e.t.name), .pv (iv e.t.n), .pv (tys e.t.kids), .pv (exs e.kids), .pv (als e.alts), .pv (bds e.binds), .pv (iv e.at_)]] [] (.pv (bv true)) [] :=
  (ev_fx (q := q8 (iv e.kind) (sv e.name) (iv e.n) (iv e.t.kind) (sv e.t.name) (iv e.t.n) (tys e.t.kids) (exs e.kids) (als e.alts) (bds e.binds) (iv e.at_) (iv e.kind) (sv e.name) (iv e.n) (iv e.t.kind) (sv e.t.name) (iv e.t.n) (tys e.t.kids) (exs e.kids) (als e.alts) (bds e.binds) (iv e.at_)) (r := (0, [bv true])) (ent := eF 8 [(.agg (wR 0 11)),(.agg (wR 11 11))] [] 22 28) (sh := { v := .pv (.sym 0), m := 1 }) (by kernel_rfl) rfl (by kernel_rfl) rfl rfl rfl rfl rfl rfl (by simp [NSL_cons, NSL_nil]) h).1
theorem sem9 (l : List Bd) (h : ev (q9 (bds l) (bds l)) = some (0, [bv true])) : Sem Tryz.prog 9 [.pv (bds l), .pv (bds l)] [] (.pv (bv true)) [] :=
  (ev_fx (q := q9 (bds l) (bds l)) (r := (0, [bv true])) (ent := eF 9 [o0,o1] [] 2 31) (sh := { v := .pv (.sym 0), m := 1 }) (by kernel_rfl) rfl (by kernel_rfl) rfl rfl rfl rfl rfl rfl (by simp [NSL_cons, NSL_nil]) h).1
theorem sem10 (l : List Tb) (h : ev (q10w (tbs l)) = some (0, [bds (l.map Tb.er)])) : Sem Tryz.prog 10 [.pv (tbs l)] [] (.pv (bds (l.map Tb.er))) [] :=
  (ev_fx (q := q10w (tbs l)) (r := (0, [bds (l.map Tb.er)])) (ent := en86) (sh := { v := .pv (.sym 0), m := 1 }) (by kernel_rfl) rfl (by kernel_rfl) rfl rfl rfl rfl rfl rfl (by simp [NSL_cons, NSL_nil]) h).1
theorem sem11 (l : List Tb) (h : ev (q11w (tbs l)) = some (0, [bds (l.map Tb.er)])) : Sem Tryz.prog 11 [.pv (tbs l)] [] (.pv (bds (l.map Tb.er))) [] :=
  (ev_fx (q := q11w (tbs l)) (r := (0, [bds (l.map Tb.er)])) (ent := en88) (sh := { v := .pv (.sym 0), m := 1 }) (by kernel_rfl) rfl (by kernel_rfl) rfl rfl rfl rfl rfl rfl (by simp [NSL_cons, NSL_nil]) h).1
theorem er_Ok : ∀ (x : Tx), x.size ≤ 1048576 → x.er.Ok := by
  have key : ∀ (n : Nat) (x : Tx), x.size ≤ n → n ≤ 1048576 → x.er.Ok := by
    intro n
    induction n with
    | zero => intro x h _; have := x.size_pos; omega
    | succ n ih =>
      intro x h hn
      cases x with
      | mk k s m t ts ks xs bs a =>
        rw [Tx.size] at h
        rw [Tx.er, Tx.ers_eq, Ta.ers_eq, Tb.ers_eq, Ex.Ok]
        have h1 := Tx.len_le ks
        have h2 := Ta.len_le xs
        have h3 := Tb.len_le bs
        refine ⟨?_, ⟨by rw [List.length_map]; unfold maxN; omega, ?_⟩, ⟨by rw [List.length_map]; unfold maxN; omega, ?_⟩, ⟨by rw [List.length_map]; unfold maxN; omega, ?_⟩⟩
        · by_cases hk : k = 12
          · rw [if_pos hk]; exact Ty.ok n t (by omega) (by unfold maxN; omega)
          · rw [if_neg hk]; exact .mk _ _ _ _ (by simp) (fun t ht => by cases ht)
        · refine (Ex.OkL_iff _).2 fun y hy => ?_
          obtain ⟨z, hz, rfl⟩ := List.mem_map.1 hy
          exact ih z (by have := Tx.mem_le hz; omega) (by omega)
        · refine (Al.OkL_iff _).2 fun y hy => ?_
          obtain ⟨z, hz, rfl⟩ := List.mem_map.1 hy
          have h4 := Ta.mem_le hz
          cases z with
          | mk p e =>
            rw [Ta.size] at h4
            rw [Ta.er, Al.Ok]
            exact ⟨Pt.ok n p (by omega) (by unfold maxN; omega), ih e (by omega) (by omega)⟩
        · refine (Bd.OkL_iff _).2 fun y hy => ?_
          obtain ⟨z, hz, rfl⟩ := List.mem_map.1 hy
          have h4 := Tb.mem_le hz
          cases z with
          | mk s vs ps e a =>
            rw [Tb.size] at h4
            rw [Tb.er, Bd.Ok]
            exact ih e (by omega) (by omega)
  exact fun x h => key x.size x (Nat.le_refl _) h
set_option maxHeartbeats 2000000 in
theorem law_sem (x : Tx) (hx : x.size ≤ 1048576) : Sem Tryz.prog 3 [.agg [.pv (iv x.kind), .pv (sv x.name), .pv (iv x.n), .pv (iv x.t.kind), .pv (sv x.t.name), .pv (iv x.t.n), .pv (tys x.t.kids), .pv (tys x.ts), .pv (txs x.kids), .pv (tas x.alts), .pv (tbs x.binds), .pv (iv x.at_)]] [] (.pv (bv true)) [] := by
  have sa := awake_sem
  have hm : (1048576 : Nat) ≤ maxN := by unfold maxN; omega
  obtain ⟨b, hb⟩ := small_tx (Nat.le_trans hx hm) 500
  have s5 := sem5 x hb
  refine F3 (iv x.kind) (sv x.name) (iv x.n) (iv x.t.kind) (sv x.t.name) (iv x.t.n) (tys x.t.kids) (tys x.ts) (txs x.kids) (tas x.alts) (tbs x.binds) (iv x.at_) (by simp) ?_
  unfold T3
  rw [Den]
  refine .inl ?_
  rw [Den, exN]
  refine ⟨?_, ?_⟩
  · exact ⟨sa, trivial, trivial⟩
  rw [Den]
  cases b with
  | false =>
    refine .inr ?_
    rw [Den, exN]
    refine ⟨?_, ?_⟩
    · exact ⟨s5, trivial, trivial⟩
    rw [Den]
    exact ⟨rfl, trivial, trivial⟩
  | true =>
    have hp := P_er x.size x (Nat.le_refl _) hx
    have hr := R_er x.size x (Nat.le_refl _) hx
    refine .inl ?_
    rw [Den, exN]
    refine ⟨?_, ?_⟩
    · exact ⟨s5, trivial, trivial⟩
    have hs : SamE x.er := ex_same x.er (er_Ok x hx)
    have l3 : x.binds.length ≤ 1048576 := by have := Tb.len_le x.binds; have := x.size_eq; omega
    have hb9 : ev (q9 (bds (x.binds.map Tb.er)) (bds (x.binds.map Tb.er))) = some (0, [bv true]) := binds_same _ (by rw [List.length_map]; unfold maxN; omega) (by
      intro y hy
      obtain ⟨z, hz, rfl⟩ := List.mem_map.1 hy
      rw [Tb.er_e]
      exact ex_same _ (er_Ok z.e (by have h1 := Tb.mem_le hz; have h2 := z.size_eq; have h3 := x.size_eq; omega)))
    have hpb : ∀ y ∈ x.binds, P_ok y.e := fun y hz => P_er _ y.e (Nat.le_refl _) (by have h1 := Tb.mem_le hz; have h2 := y.size_eq; have h3 := x.size_eq; omega)
    have hrb : ∀ y ∈ x.binds, R_ok y.e := fun y hz => R_er _ y.e (Nat.le_refl _) (by have h1 := Tb.mem_le hz; have h2 := y.size_eq; have h3 := x.size_eq; omega)
    have s6 := sem6 x hp
    have s7 := sem7 x hr
    have s8 := sem8 x.er hs
    have s9 := sem9 _ hb9
    have s10 := sem10 _ (P_binds x.binds l3 hpb)
    have s11 := sem11 _ (R_binds x.binds l3 hrb)
    rw [Den]
    simp only [exN, List.append_assoc, List.cons_append, List.nil_append]
    refine ⟨iv x.er.kind, sv x.er.name, iv x.er.n, iv x.er.t.kind, sv x.er.t.name, iv x.er.t.n, tys x.er.t.kids, exs x.er.kids, als x.er.alts, bds x.er.binds, iv x.er.at_, ⟨⟨⟨⟨⟨⟨⟨⟨⟨⟨⟨⟨⟨s6, trivial, trivial⟩, ?_⟩, by simp⟩, by simp⟩, by simp⟩, by simp⟩, by simp⟩, by simp⟩, by simp⟩, by simp⟩, by simp⟩, by simp⟩, by simp⟩⟩
    rw [Den]
    simp only [exN, List.append_assoc, List.cons_append, List.nil_append]
    refine ⟨iv x.er.kind, sv x.er.name, iv x.er.n, iv x.er.t.kind, sv x.er.t.name, iv x.er.t.n, tys x.er.t.kids, exs x.er.kids, als x.er.alts, bds x.er.binds, iv x.er.at_, ⟨⟨⟨⟨⟨⟨⟨⟨⟨⟨⟨⟨⟨s7, trivial, trivial⟩, ?_⟩, by simp⟩, by simp⟩, by simp⟩, by simp⟩, by simp⟩, by simp⟩, by simp⟩, by simp⟩, by simp⟩, by simp⟩, by simp⟩⟩
    rw [Den]
    refine .inl ?_
    rw [Den, exN]
    refine ⟨?_, ?_⟩
    · exact ⟨s8, trivial, trivial⟩
    rw [Den]
    refine .inl ?_
    rw [Den, exN]
    refine ⟨bin_eql.2 (by simp), ?_⟩
    rw [Den]
    simp only [exN, List.append_assoc, List.cons_append, List.nil_append]
    refine ⟨bds (x.binds.map Tb.er), ⟨⟨s10, trivial, trivial⟩, ?_⟩, by simp⟩
    rw [Den]
    simp only [exN, List.append_assoc, List.cons_append, List.nil_append]
    refine ⟨bds (x.binds.map Tb.er), ⟨⟨s11, trivial, trivial⟩, ?_⟩, by simp⟩
    rw [Den]
    refine .inl ?_
    rw [Den, exN]
    refine ⟨?_, ?_⟩
    · exact ⟨s9, trivial, trivial⟩
    rw [Den]
    exact ⟨rfl, trivial, trivial⟩
end Go.Proofs.YtlfkefbhdmfllaaGreatDoor
