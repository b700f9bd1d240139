/- Joined texts. -/
import Derived.Test.YtfphhabaeggenaaDoorBg
import Derived.Test.YtfphhabaeggenaaDoorBh
import Derived.Test.YtfphhabaeggenaaDoorBi
import Derived.Test.YtfphhabaeggenaaDoorMzR
import Derived.Laws.StructEq
set_option linter.all false
namespace Go.Proofs.YtfphhabaeggenaaDoor
open Go.RowKit
set_option linter.all false
set_option maxRecDepth 10000
theorem scanP_ne {b : ByteArray} : isNilE (Lx.scanP b) = false := by
  cases h : Lx.scanP b with
  | error p => rfl
  | ok ts =>
    cases ts with
    | cons t l => rfl
    | nil =>
      exfalso
      have h2 : scanT b = .ok [] := by unfold scanT; rw [h]; rfl
      exact absurd (scanT_ok h2).2.2.pos (by simp)
theorem scan_p (b : ByteArray) (hb : b.size ≤ 1000000) : ev (q20 (sv b)) = some (0, match scanT b with
    | .ok L => [tks L, iv 0, iv 0]
    | .error (c, p) => [nS, iv c, iv (p : Nat)]) := by
  refine Evl.of ?_
  rw [h20]
  have e : scnP [sv b] = some (0, [(scanV (Lx.scanP b)).1, iv (scanV (Lx.scanP b)).2.1, iv (scanV (Lx.scanP b)).2.2]) := by
    show (if b.size ≤ 1000000 ∧ isNilE (Lx.scanP b) = false then _ else none) = _
    rw [if_pos ⟨hb, scanP_ne⟩]
  rw [e]
  unfold scanT
  cases h : Lx.scanP b with
  | error p => rfl
  | ok ts => rfl
abbrev zX : List PV := [iv 0, sv eB, iv 0, iv 0, sv eB, iv 0, nS, nS, nS, nS, iv 0]
def PXr (b : ByteArray) (L : List Tk) (r : Rz Ex) : Prop := match r with
  | .out => True
  | .ok v e => ev (q6 (sv b)) = some (0, if (tkAt L e).kind = 0 then exC v ++ [iv 0, iv 0] else zX ++ [iv 110, iv (tkAt L e).at_])
  | .err c w => ev (q6 (sv b)) = some (0, zX ++ [iv c, iv w])
theorem pexp_bad (b : ByteArray) (hb : b.size ≤ 1000000) {c : Int} {p : Nat} (ht : scanT b = .error (c, p)) : ev (q6 (sv b)) = some (0, zX ++ [iv c, iv (p : Nat)]) := by
  have hs := scan_p b hb
  rw [ht] at hs
  have hc := scanT_bad ht
  have hw : ev (q10a (sv b)) = some (0, zX ++ [iv c, iv (p : Nat)]) := Evl.of (by rw [h10a, g10a]; simp [hs, hc])
  exact Evl.of (by rw [h6, g6]; simp [hw])
theorem pexp_x (b : ByteArray) (hb : b.size ≤ 1000000) {L : List Tk} (ht : scanT b = .ok L) (m : Nat) : PXr b L (expG L m 0 0) := by
  have hs := scan_p b hb
  rw [ht] at hs
  obtain ⟨hz, hl, hW⟩ := scanT_ok ht
  have hn := s_ex hW m 0 0 (by decide) (by decide) hW.pos
  revert hn
  show PE_ L (pEx L 0 0) (expG L m 0 0) _ _ → _
  generalize expG L m 0 0 = r
  intro hn
  cases r with
  | out => trivial
  | err e w =>
    obtain ⟨z, g, b', d', rfl⟩ := hn
    have g : ev (q11aw (tks L) (iv 0) (iv 0)) = _ := g
    have hw : ev (q10a (sv b)) = some (0, zX ++ [iv e, iv w]) := Evl.of (by rw [h10a, g10a]; simp [hs, g])
    exact Evl.of (by rw [h6, g6]; simp [hw])
  | ok v b' =>
    obtain ⟨hb', z, g, hlt, rfl⟩ := hn
    have g : ev (q11aw (tks L) (iv 0) (iv 0)) = _ := g
    have hk := p_kind hW hb' 0 (iv 0)
    show ev (q6 (sv b)) = _
    by_cases h0 : (tkAt L b').kind = 0
    · rw [if_pos h0] at hk ⊢
      have hw : ev (q10a (sv b)) = some (0, exC v ++ [iv 0, iv 0]) := Evl.of (by rw [h10a, g10a]; simp [-Int.natCast_add, hs, g, hk, Tk.cells])
      exact Evl.of (by rw [h6, g6]; simp [hw])
    · rw [if_neg h0] at hk ⊢
      have hw : ev (q10a (sv b)) = some (0, zX ++ [iv 110, iv (tkAt L b').at_]) := Evl.of (by rw [h10a, g10a]; simp [-Int.natCast_add, hs, g, hk, Tk.cells])
      exact Evl.of (by rw [h6, g6]; simp [hw])
/-- What the program says of n steps. -/
theorem deep_x {b : ByteArray} {n : Nat} {first : Int} (hb : b.size ≤ 1000000) (h : Deep b n first) : if n < 300 then ∃ v, ev (q6 (sv b)) = some (0, exC v ++ [iv 0, iv 0]) else ev (q6 (sv b)) = some (0, zX ++ [iv 111, iv first]) := by
  obtain ⟨L, m, hs, h⟩ := h
  have hx := pexp_x b hb hs m
  split
  · rename_i hn
    rw [if_pos hn] at h
    obtain ⟨v, e, h1, h2⟩ := h
    rw [h1] at hx
    refine ⟨v, hx.trans ?_⟩
    rw [if_pos h2]
  · rename_i hn
    rw [if_neg hn] at h
    rw [h] at hx
    exact hx
set_option linter.all false
theorem conv_u (k : Int) : convA PG 3 24 (.pv (iv k)) = some (.pv (.lit (.int .u64 (IntKind.u64.wrap k)))) := by
  kernel_rfl
theorem rem_u (k : Int) (x y : Operand) : binA PG .rem 24 x y (.pv (.lit (.int .u64 k))) (.pv (.lit (.int .u64 4))) = some (.pv (.lit (.int .u64 (k.tmod 4)))) := by
  kernel_rfl
theorem eq_u (k : Int) (x y : Operand) : binA PG .eql 24 x y (.pv (.lit (.int .u64 k))) (.pv (.lit (.int .u64 2))) = some (.pv (.lit (.bool (k == 2)))) := by
  kernel_rfl
theorem pureRun_eqi {P : Program} {t : TypeId} (h : P.underlying t = some (.int .i64)) (d : Nat) (a b : Int) : pureRun P (Op.equalIn (d + 1) t (.int .i64 a) (.int .i64 b)) = some (a == b) := by
  simp only [Op.equalIn, pureRun_bind, pureRun_und h, Option.bind_some]
  rfl
/-- A struct of two numbers. -/
theorem pureRun_eq2 {P : Program} {t t1 t2 : TypeId} {f1 f2 : Field} (d : Nat) (hs : P.underlying t = some (.struct #[f1, f2])) (hp : P.stoodInHeld t = false) (n1 : f1.name ≠ "_") (n2 : f2.name ≠ "_") (h1 : P.underlying f1.type = some (.int .i64)) (h2 : P.underlying f2.type = some (.int .i64))
    (p1 : ∀ a b : Int, pureRun P (part f1.type #[.int .i64 a, .int .i64 b] f1.offset) = some (.int .i64 a)) (p2 : ∀ a b : Int, pureRun P (part f2.type #[.int .i64 a, .int .i64 b] f2.offset) = some (.int .i64 b)) (a b a' b' : Int) :
    pureRun P (Op.equalIn (d + 2) t (.agg #[.int .i64 a, .int .i64 b]) (.agg #[.int .i64 a', .int .i64 b'])) = some ((a == a') && (b == b')) := by
  rw [Op.equalIn]
  simp only [pureRun_bind, pureRun_und hs, Option.bind_some]
  have hpr : pureRun P program = some P := rfl
  simp only [hpr, Option.bind_some, hp, Bool.false_eq_true, if_false]
  rw [← Array.forIn_toList]
  simp only [List.forIn_cons, List.forIn_nil, if_pos n1, if_pos n2, ne_eq, n1, n2, not_false_eq_true, if_true, pureRun_bind, p1, p2, Option.bind_some]
  have e1 := pureRun_eqi h1 d a a'
  have e2 := pureRun_eqi h2 d b b'
  rw [e1]
  simp only [Option.bind_some]
  cases a == a' with
  | false => rfl
  | true =>
    simp only [Bool.not_true, Bool.false_eq_true, if_false, pureRun_bind, p1, p2, Option.bind_some, Bool.true_and]
    have e0 : ∀ {α : Type} (x : α), pureRun P (pure x : Go.Sem α) = some x := fun _ => rfl
    simp only [e0, Option.bind_some, pureRun_bind, p1, p2, e2]
    cases b == b' <;> rfl
theorem guard_d (x y : Operand) (a b c d : Int) : pureRun PG (eqGuard .eql 35 x y (.agg #[.int .i64 a, .int .i64 b]) (.agg #[.int .i64 c, .int .i64 d])) = some () := by kernel_rfl
def fdC : Field := { name := "Code", type := 33, offset := 0, embedded := false, tag := "", pkgPath := "", byteOffset := 0 }
def fdA : Field := { name := "At", type := 3, offset := 1, embedded := false, tag := "", pkgPath := "", byteOffset := 8 }
theorem und_d : PG.underlying 35 = some (.struct #[fdC, fdA]) := by kernel_rfl
theorem held_d : PG.stoodInHeld 35 = false := by kernel_rfl
theorem eq_run (a b c d : Int) : pureRun PG (Op.equalIn (Op.maxDepth - 2 + 2) 35 (.agg #[.int .i64 a, .int .i64 b]) (.agg #[.int .i64 c, .int .i64 d])) = some ((a == c) && (b == d)) :=
  pureRun_eq2 (t1 := 3) (t2 := 3) (f1 := fdC) (f2 := fdA) _ und_d held_d (by decide) (by decide) (by kernel_rfl) (by kernel_rfl) (fun a b => by kernel_rfl) (fun a b => by kernel_rfl) a b c d
theorem binA_agg {P : Program} {t : TypeId} {x y : Operand} {A B : Array Value} {u v : AV} {r : Bool} (hg : pureRun P (eqGuard .eql t x y (.agg A) (.agg B)) = some ()) (he : pureRun P (Op.equal t (.agg A) (.agg B)) = some r) (hu : u.val? = some (.agg A)) (hv : v.val? = some (.agg B)) : binA P .eql t x y u v = some (.pv (bv r)) := by
  have h : pureRun P (do eqGuard .eql t x y (.agg A) (.agg B); binOp .eql t (.agg A) (.agg B)) = some (.bool r) := by
    rw [pureRun_bind, hg]
    show pureRun P (Op.equal t (.agg A) (.agg B) >>= fun r => (pure (Value.bool r) : Go.Sem Value)) = _
    rw [pureRun_bind, he]
    rfl
  unfold binA
  rw [hu, hv]
  simp only [fastA]
  rw [h]
  rfl
theorem eq_d (x y : Operand) (a b c d : Int) : binA PG .eql 35 x y (.agg [.pv (iv a), .pv (iv b)]) (.agg [.pv (iv c), .pv (iv d)]) = some (.pv (bv ((a == c) && (b == d)))) :=
  binA_agg (guard_d x y a b c d) (eq_run a b c d) rfl rfl
theorem bin_d {r : AV} (a b c d : Int) : BinOk PG .eql 35 (.agg [.pv (iv a), .pv (iv b)]) (.agg [.pv (iv c), .pv (iv d)]) r ↔ r = .pv (bv ((a == c) && (b == d))) := BinOk.iff fun x y => eq_d x y a b c d
theorem uS : PG.underlying 9 = some .string := by kernel_rfl
theorem bin_cat {P : Program} {t : TypeId} {r : AV} {x y : ByteArray} (h : x.size + y.size ≤ 9223372036854775807) : BinOk P .add t (.pv (.lit (.string x))) (.pv (.lit (.string y))) r ↔ r = .pv (.lit (.string (x ++ y))) := BinOk.iff fun a b => by
  have e : binA P .add t a b (.pv (.lit (.string x))) (.pv (.lit (.string y))) = (match pureRun P (Op.stringOp .add x y) with | some r => ofVal r | none => none) := rfl
  have h2 : ¬ (((x.size + y.size : Nat) : Int) > IntKind.i64.max) := by
    have : IntKind.i64.max = 9223372036854775807 := by decide
    omega
  have h3 : pureRun P (Op.stringOp .add x y) = some (.string (x ++ y)) := by
    unfold Op.stringOp
    simp only
    rw [if_neg h2]
    rfl
  rw [e, h3]
  rfl
theorem bin_mul {P : Program} {t : TypeId} {r : AV} {a b : Int} : BinOk P .mul t (.pv (.lit (.int .i64 a))) (.pv (.lit (.int .i64 b))) r ↔ r = .pv (.lit (.int .i64 (IntKind.i64.wrap (a * b)))) := BinOk.iff fun _ _ => rfl
set_option linter.all false
open Lx (textOf rep rep_succ rep_snoc rep_len rep_zero)
theorem text_app (x y : List UInt8) : textOf x ++ textOf y = textOf (x ++ y) := by
  apply ByteArray.ext
  show (textOf x ++ textOf y).data = _
  rw [ByteArray.data_append]
  simp [textOf]
theorem text_size (l : List UInt8) : (textOf l).size = l.length := Lx.textOf_size l
abbrev tv (l : List UInt8) : PV := sv (textOf l)
theorem loop0 (st : List UInt8) (hst : st.length ≤ 17) (n : Nat) (hn : n ≤ 600) (k : Int) : ∀ (g i : Nat), i + g = n → LoopS Tryd.prog Tryd.f3 0 0 [(26, .pv (iv i)), (25, .pv (iv n)), (5, .pv (tv (rep i st))), (6, .pv (tv st)), (0, .pv (iv n)), (1, .pv (iv k))] [] (.exit 0) [(5, .pv (tv (rep n st))), (0, .pv (iv n)), (6, .pv (tv st)), (1, .pv (iv k))] []
  | 0, i, h => by
    have hi : i = n := by omega
    subst hi
    refine LoopS.done (fun R => L3b0a (iv i) (iv i) (tv (rep i st)) (tv st) (iv i) (iv k) (by simp [NSL_cons, NSL_nil]) ?_ R) (by simp)
    unfold T3b0a
    rw [Den]
    refine .inr ?_
    rw [Den, exN]
    refine ⟨bin_lss.2 (by simp), ?_⟩
    rw [Den]
    exact ⟨rfl, by simp only [TsE, TsAs, TsA, and_self], trivial⟩
  | g + 1, i, h => by
    have hlen : (rep i st).length ≤ 600 * 17 := by
      rw [rep_len]
      exact Nat.mul_le_mul (by omega) hst
    refine LoopS.again (fun R => L3b0a (iv i) (iv n) (tv (rep i st)) (tv st) (iv n) (iv k) (by simp [NSL_cons, NSL_nil]) ?_ R) (loop0 st hst n hn k g (i + 1) (by omega))
    unfold T3b0a
    rw [Den]
    refine .inl ?_
    rw [Den, exN]
    refine ⟨bin_lss.2 (by simp; omega), ?_⟩
    rw [Den]
    simp only [exN, List.append_assoc, List.cons_append, List.nil_append]
    refine ⟨tv (rep (i + 1) st), ⟨(bin_cat (by rw [text_size, text_size]; omega)).2 (by rw [text_app, ← rep_snoc]; rfl), ?_⟩, by simp⟩
    rw [Den]
    simp only [exN, List.append_assoc, List.cons_append, List.nil_append]
    refine ⟨iv ((i + 1 : Nat) : Int), ⟨bin_add.2 (by rw [wrap_id (by omega)]; rfl), ?_⟩, by simp⟩
    rw [Den]
    exact ⟨rfl, by simp only [TsE, TsAs, TsA, and_self], trivial⟩
open Lx (st0 st1 st2 st3 tlt)
abbrev E2a (st l : List UInt8) (i n m : Nat) (k : Int) : Env := [(37, .pv (iv i)), (36, .pv (iv n)), (6, .pv (tv st)), (5, .pv (tv l)), (0, .pv (iv n)), (7, .pv (iv m)), (1, .pv (iv k))]
abbrev E2x (st l : List UInt8) (n m : Nat) (k : Int) : Env := [(5, .pv (tv l)), (0, .pv (iv n)), (7, .pv (iv m)), (6, .pv (tv st)), (1, .pv (iv k))]
theorem done2 (st l : List UInt8) (n m : Nat) (k : Int) : LoopS Tryd.prog Tryd.f3 2 0 (E2a st l n n m k) [] (.exit 2) (E2x st l n m k) [] := by
  refine LoopS.done (fun R => L3b2a (iv n) (iv n) (tv st) (tv l) (iv n) (iv m) (iv k) (by simp [NSL_cons, NSL_nil]) ?_ R) (by simp)
  unfold T3b2a
  rw [Den]
  refine .inr ?_
  rw [Den, exN]
  refine ⟨bin_lss.2 (by simp), ?_⟩
  rw [Den]
  exact ⟨rfl, by simp only [TsE, TsAs, TsA, and_self], trivial⟩
theorem loop2_0 (base : List UInt8) (hb : base.length ≤ 20000) (n : Nat) (hn : n ≤ 600) (m : Nat) (k : Int) : ∀ (g i : Nat), i + g = n → LoopS Tryd.prog Tryd.f3 2 0 (E2a st0 (base ++ rep i [41]) i n m k) [] (.exit 2) (E2x st0 (base ++ rep n [41]) n m k) []
  | 0, i, h => by
    have hi : i = n := by omega
    subst hi
    exact done2 _ _ _ _ _
  | g + 1, i, h => by
    have hlen : (base ++ rep i [41]).length ≤ 40000 := by
      rw [List.length_append, rep_len]
      simp only [List.length_cons, List.length_nil]; omega
    refine LoopS.again (fun R => L3b2a (iv i) (iv n) (tv st0) (tv (base ++ rep i [41])) (iv n) (iv m) (iv k) (by simp [NSL_cons, NSL_nil]) ?_ R) (loop2_0 base hb n hn m k g (i + 1) (by omega))
    unfold T3b2a
    rw [Den]
    refine .inl ?_
    rw [Den, exN]
    refine ⟨bin_lss.2 (by simp; omega), ?_⟩
    rw [Den]
    refine .inl ?_
    rw [Den, exN]
    refine ⟨bin_eqs.2 rfl, ?_⟩
    rw [Den]
    simp only [exN, List.append_assoc, List.cons_append, List.nil_append]
    refine ⟨tv (base ++ rep (i + 1) [41]), ⟨(bin_cat (x := textOf (base ++ rep i [41])) (y := textOf [41]) (by rw [text_size, text_size]; simp only [List.length_cons, List.length_nil] at hlen ⊢; omega)).2 (by rw [text_app, List.append_assoc, ← rep_snoc]; rfl), ?_⟩, by simp⟩
    rw [Den]
    simp only [exN, List.append_assoc, List.cons_append, List.nil_append]
    refine ⟨iv ((i + 1 : Nat) : Int), ⟨bin_add.2 (by rw [wrap_id (by omega)]; rfl), ?_⟩, by simp⟩
    rw [Den]
    exact ⟨rfl, by simp only [TsE, TsAs, TsA, and_self], trivial⟩
theorem loop2_3 (base : List UInt8) (hb : base.length ≤ 20000) (n : Nat) (hn : n ≤ 600) (m : Nat) (k : Int) : ∀ (g i : Nat), i + g = n → LoopS Tryd.prog Tryd.f3 2 0 (E2a st3 (base ++ rep i tlt) i n m k) [] (.exit 2) (E2x st3 (base ++ rep n tlt) n m k) []
  | 0, i, h => by
    have hi : i = n := by omega
    subst hi
    exact done2 _ _ _ _ _
  | g + 1, i, h => by
    have hlen : (base ++ rep i tlt).length ≤ 40000 := by
      rw [List.length_append, rep_len]
      simp only [tlt, List.length_cons, List.length_nil]; omega
    refine LoopS.again (fun R => L3b2a (iv i) (iv n) (tv st3) (tv (base ++ rep i tlt)) (iv n) (iv m) (iv k) (by simp [NSL_cons, NSL_nil]) ?_ R) (loop2_3 base hb n hn m k g (i + 1) (by omega))
    unfold T3b2a
    rw [Den]
    refine .inl ?_
    rw [Den, exN]
    refine ⟨bin_lss.2 (by simp; omega), ?_⟩
    rw [Den]
    refine .inr ?_
    rw [Den, exN]
    refine ⟨bin_eqs.2 rfl, ?_⟩
    rw [Den]
    refine .inl ?_
    rw [Den, exN]
    refine ⟨bin_eqs.2 rfl, ?_⟩
    rw [Den]
    simp only [exN, List.append_assoc, List.cons_append, List.nil_append]
    refine ⟨tv (base ++ rep (i + 1) tlt), ⟨(bin_cat (x := textOf (base ++ rep i tlt)) (y := textOf tlt) (by rw [text_size, text_size]; have : tlt.length = 5 := rfl; omega)).2 (by rw [text_app, List.append_assoc, ← rep_snoc]; rfl), ?_⟩, by simp⟩
    rw [Den]
    simp only [exN, List.append_assoc, List.cons_append, List.nil_append]
    refine ⟨iv ((i + 1 : Nat) : Int), ⟨bin_add.2 (by rw [wrap_id (by omega)]; rfl), ?_⟩, by simp⟩
    rw [Den]
    exact ⟨rfl, by simp only [TsE, TsAs, TsA, and_self], trivial⟩
theorem loop2_n (st base : List UInt8) (h1 : textOf st ≠ ⟨#[40]⟩) (h2 : textOf st ≠ ⟨#[108, 101, 116, 32, 121, 32, 61, 32]⟩) (n : Nat) (hn : n ≤ 600) (m : Nat) (k : Int) : ∀ (g i : Nat), i + g = n → LoopS Tryd.prog Tryd.f3 2 0 (E2a st base i n m k) [] (.exit 2) (E2x st base n m k) []
  | 0, i, h => by
    have hi : i = n := by omega
    subst hi
    exact done2 _ _ _ _ _
  | g + 1, i, h => by
    refine LoopS.again (fun R => L3b2a (iv i) (iv n) (tv st) (tv base) (iv n) (iv m) (iv k) (by simp [NSL_cons, NSL_nil]) ?_ R) (loop2_n st base h1 h2 n hn m k g (i + 1) (by omega))
    unfold T3b2a
    rw [Den]
    refine .inl ?_
    rw [Den, exN]
    refine ⟨bin_lss.2 (by simp; omega), ?_⟩
    rw [Den]
    refine .inr ?_
    rw [Den, exN]
    refine ⟨bin_eqs.2 (by rw [decide_eq_false h1]; rfl), ?_⟩
    rw [Den]
    refine .inr ?_
    rw [Den, exN]
    refine ⟨bin_eqs.2 (by rw [decide_eq_false h2]; rfl), ?_⟩
    rw [Den]
    simp only [exN, List.append_assoc, List.cons_append, List.nil_append]
    refine ⟨iv ((i + 1 : Nat) : Int), ⟨bin_add.2 (by rw [wrap_id (by omega)]; rfl), ?_⟩, by simp⟩
    rw [Den]
    exact ⟨rfl, by simp only [TsE, TsAs, TsA, and_self], trivial⟩
set_option linter.all false
set_option maxRecDepth 20000
open Lx (textOf rep rep_succ rep_snoc rep_len rep_zero st0 st1 st2 st3 tlt)
theorem ev_fx {q : Q} {r : Rs} {ent : Ent} {sh : Shape} {args : List AV} {h h' : List AObj} {v : AV} (he : EE q.k = ent) (hl : ent.lp = none) (hs : shp SS EE q.k r.1 = sh) (ha : openAVs (nm q.xs) ent.args = args) (hh : openH (nm q.xs) ent.h = h) (hv : openAV (nm r.2) sh.v = v) (hh' : openH (nm r.2) sh.h = h')
    (hn : q.xs.length = ent.n) (hr : ent.rin = []) (hns : NSL q.xs) (h0 : ev q = some r) : Sem Tryd.prog ent.f args h v h' ∧ NSL r.2 := by
  obtain ⟨h1, h2⟩ := ev_sound h0 ⟨by rw [he]; exact hn, hns, by rw [he, hr]; intro i hi; cases hi⟩
  refine ⟨?_, h2.ns⟩
  unfold SemQ at h1
  rw [he, hl] at h1
  simp only at h1
  rw [hs, ha, hh, hv, hh'] at h1
  exact h1
theorem sem6 {b : ByteArray} {c0 c1 c2 c3 c4 c5 c6 c7 c8 c9 c10 c11 c12 : PV} (h : ev (q6 (sv b)) = some (0, [c0, c1, c2, c3, c4, c5, c6, c7, c8, c9, c10, c11, c12])) : Sem Tryd.prog 6 [.pv (sv b)] [] (.tup [.agg [.pv c0, .pv c1, .pv c2, .pv c3, .pv c4, .pv c5, .pv c6, .pv c7, .pv c8, .pv c9, .pv c10], .agg [.pv c11, .pv c12]]) [] ∧ NSL [c0, c1, c2, c3, c4, c5, c6, c7, c8, c9, c10, c11, c12] := by
  have g := ev_fx (q := q6 (sv b)) (r := (0, [c0, c1, c2, c3, c4, c5, c6, c7, c8, c9, c10, c11, c12])) (ent := EE 20) (sh := shp SS EE 20 0) (args := [.pv (sv b)]) (h := []) (v := .tup [.agg [.pv c0, .pv c1, .pv c2, .pv c3, .pv c4, .pv c5, .pv c6, .pv c7, .pv c8, .pv c9, .pv c10], .agg [.pv c11, .pv c12]]) (h' := []) rfl (by kernel_rfl) rfl (by kernel_rfl) (by kernel_rfl) (by kernel_rfl) (by kernel_rfl) (by kernel_rfl) (by kernel_rfl) (fun p hp => by rw [List.mem_singleton.1 hp]; exact .lit _) h
  have hf : (EE 20).f = 6 := by kernel_rfl
  rw [hf] at g
  exact g
abbrev rw4 : PV := .rows [[tv st0], [tv st1], [tv st2], [tv st3]]
theorem law_core (st fin_ : List UInt8) (r : Int) (n : Nat) (hn : n ≤ 600) (k first : Int) (hst : st.length ≤ 17) (hr : (IntKind.u64.wrap k).tmod 4 = r) (hidx : indexAtA PG 23 (.pv rw4) r = some (.cptr [tv st]))
    (h2 : BlkS Tryd.prog Tryd.f3 2 (E2a st (rep n st ++ [97]) 0 n (rep n st).length k) [] .normal (E2x st fin_ n (rep n st).length k) [])
    (hx : if n < 300 then ∃ v, ev (q6 (tv fin_)) = some (0, exC v ++ [iv 0, iv 0]) else ev (q6 (tv fin_)) = some (0, zX ++ [iv 111, iv first]))
    (hf : 300 ≤ n → first = if r = 2 then 299 * (st.length : Int) + 3 else ((rep n st).length : Int) - ((n : Int) - 300) * st.length) : Sem Tryd.prog 3 [.pv (iv n), .pv (iv k)] [] (.pv (bv true)) [] := by
  have sa := awake_sem
  have hlen : (rep n st).length ≤ 600 * 17 := by
    rw [rep_len]
    exact Nat.mul_le_mul (by omega) hst
  have h0 : BlkS Tryd.prog Tryd.f3 0 [(26, .pv (iv 0)), (25, .pv (iv n)), (5, .pv (sv ⟨#[]⟩)), (6, .pv (tv st)), (0, .pv (iv n)), (1, .pv (iv k))] [] .normal [(5, .pv (tv (rep n st))), (0, .pv (iv n)), (6, .pv (tv st)), (1, .pv (iv k))] [] :=
    LoopS.block f3_loop0 (fun x hx => by cases hx) (loop0 st hst n hn k n 0 (by omega))
  refine F3 (iv n) (iv k) (by simp [NSL_cons, NSL_nil]) ?_
  unfold T3
  rw [Den]
  refine .inl ?_
  rw [Den, exN]
  refine ⟨⟨sa, trivial, trivial⟩, ?_⟩
  rw [Den]
  refine .inr ?_
  rw [Den, exN]
  refine ⟨bin_lss.2 (by simp), ?_⟩
  rw [Den]
  refine .inr ?_
  rw [Den, exN]
  refine ⟨bin_gtr.2 (by simp; omega), ?_⟩
  rw [Den]
  simp only [exN, List.append_assoc, List.cons_append, List.nil_append]
  refine ⟨.lit (.int .u64 (IntKind.u64.wrap k)), ⟨conv_u k, ?_⟩, by simp⟩
  rw [Den]
  simp only [exN, List.append_assoc, List.cons_append, List.nil_append]
  refine ⟨.lit (.int .u64 r), ⟨fun x y => by rw [← hr]; exact rem_u _ x y, ?_⟩, by simp⟩
  rw [Den]
  simp only [exN, List.append_assoc, List.cons_append, List.nil_append]
  refine ⟨tv st, ⟨⟨r, rfl, hidx⟩, ?_⟩, by simp⟩
  rw [Den]
  simp only [exN, List.append_assoc, List.cons_append, List.nil_append]
  refine ⟨tv (rep n st), ⟨⟨h0, trivial, trivial⟩, ?_⟩, by simp⟩
  rw [Den]
  simp only [exN, List.append_assoc, List.cons_append, List.nil_append]
  refine ⟨iv (rep n st).length, ⟨(len_str uS (textOf (rep n st))).2 (by rw [text_size]; rfl), ?_⟩, by simp⟩
  rw [Den]
  simp only [exN, List.append_assoc, List.cons_append, List.nil_append]
  refine ⟨tv (rep n st ++ [97]), ⟨(bin_cat (x := textOf (rep n st)) (y := textOf [97]) (by rw [text_size, text_size]; simp only [List.length_cons, List.length_nil]; omega)).2 (by rw [text_app]; rfl), ?_⟩, by simp⟩
  rw [Den]
  simp only [exN, List.append_assoc, List.cons_append, List.nil_append]
  refine ⟨tv fin_, ⟨⟨h2, trivial, trivial⟩, ?_⟩, by simp⟩
  rw [Den]
  simp only [exN, List.append_assoc, List.cons_append, List.nil_append]
  by_cases h3 : n < 300
  · rw [if_pos h3] at hx
    obtain ⟨v, hx⟩ := hx
    obtain ⟨s, ns⟩ := sem6 hx
    simp only [NSL_cons, NSL_nil, and_true] at ns
    obtain ⟨n0, n1, n2, n3, n4, n5, n6, n7, n8, n9, n10, n11, n12⟩ := ns
    refine ⟨_, _, _, _, _, _, _, _, _, _, _, _, _, ⟨⟨⟨⟨⟨⟨⟨⟨⟨⟨⟨⟨⟨⟨⟨s, trivial, trivial⟩, ?_⟩, n0⟩, n1⟩, n2⟩, n3⟩, n4⟩, n5⟩, n6⟩, n7⟩, n8⟩, n9⟩, n10⟩, n11⟩, n12⟩⟩
    rw [Den]
    refine .inl ?_
    rw [Den, exN]
    refine ⟨bin_lss.2 (by simp; omega), ?_⟩
    rw [Den]
    refine .inl ?_
    rw [Den, exN]
    refine ⟨(bin_d 0 0 0 0).2 rfl, ?_⟩
    rw [Den]
    exact ⟨rfl, by simp only [TsA], trivial⟩
  · rw [if_neg h3] at hx
    obtain ⟨s, ns⟩ := sem6 hx
    simp only [NSL_cons, NSL_nil, and_true] at ns
    obtain ⟨n0, n1, n2, n3, n4, n5, n6, n7, n8, n9, n10, n11, n12⟩ := ns
    have hf := hf (by omega)
    have hmul : ((n : Int) - 300) * (st.length : Int) ≤ 300 * 17 := Int.mul_le_mul (by omega) (by omega) (by omega) (by omega)
    have hmul0 : 0 ≤ ((n : Int) - 300) * (st.length : Int) := Int.mul_nonneg (by omega) (by omega)
    refine ⟨_, _, _, _, _, _, _, _, _, _, _, _, _, ⟨⟨⟨⟨⟨⟨⟨⟨⟨⟨⟨⟨⟨⟨⟨s, trivial, trivial⟩, ?_⟩, n0⟩, n1⟩, n2⟩, n3⟩, n4⟩, n5⟩, n6⟩, n7⟩, n8⟩, n9⟩, n10⟩, n11⟩, n12⟩⟩
    rw [Den]
    refine .inr ?_
    rw [Den, exN]
    refine ⟨bin_lss.2 (by simp; omega), ?_⟩
    rw [Den]
    simp only [exN, List.append_assoc, List.cons_append, List.nil_append]
    refine ⟨iv ((n : Int) - 300), ⟨bin_sub.2 (by rw [wrap_id (by omega)]; rfl), ?_⟩, by simp⟩
    rw [Den]
    simp only [exN, List.append_assoc, List.cons_append, List.nil_append]
    refine ⟨iv st.length, ⟨(len_str uS (textOf st)).2 (by rw [text_size]; rfl), ?_⟩, by simp⟩
    rw [Den]
    simp only [exN, List.append_assoc, List.cons_append, List.nil_append]
    refine ⟨iv (((n : Int) - 300) * st.length), ⟨bin_mul.2 (by rw [wrap_id (by omega)]; rfl), ?_⟩, by simp⟩
    rw [Den]
    simp only [exN, List.append_assoc, List.cons_append, List.nil_append]
    refine ⟨iv (((rep n st).length : Int) - ((n : Int) - 300) * st.length), ⟨bin_sub.2 (by rw [wrap_id (by omega)]; rfl), ?_⟩, by simp⟩
    rw [Den]
    by_cases h5 : r = 2
    · rw [if_pos h5] at hf
      refine .inl ?_
      rw [Den, exN]
      refine ⟨fun x y => (eq_u r x y).trans (by rw [h5]; rfl), ?_⟩
      rw [Den]
      simp only [exN, List.append_assoc, List.cons_append, List.nil_append]
      refine ⟨iv (299 * st.length), ⟨bin_mul.2 (by rw [wrap_id (by omega)]; rfl), ?_⟩, by simp⟩
      rw [Den]
      simp only [exN, List.append_assoc, List.cons_append, List.nil_append]
      refine ⟨iv (299 * st.length + 3), ⟨bin_add.2 (by rw [wrap_id (by omega)]; rfl), ?_⟩, by simp⟩
      rw [Den]
      refine .inl ?_
      rw [Den, exN]
      refine ⟨(bin_d 111 first 111 _).2 (by rw [hf]; simp), ?_⟩
      rw [Den]
      exact ⟨rfl, by simp only [TsA], trivial⟩
    · rw [if_neg h5] at hf
      refine .inr ?_
      rw [Den, exN]
      refine ⟨fun x y => (eq_u r x y).trans (by rw [beq_eq_false_iff_ne.2 h5]; rfl), ?_⟩
      rw [Den]
      refine .inl ?_
      rw [Den, exN]
      refine ⟨(bin_d 111 first 111 _).2 (by rw [hf]; simp), ?_⟩
      rw [Den]
      exact ⟨rfl, by simp only [TsA], trivial⟩
theorem big_ok {l : List UInt8} (h : l.length ≤ 100000) : (textOf l).size ≤ 1000000 := by rw [text_size]; omega
theorem blk2 {st base fin_ : List UInt8} {n m : Nat} {k : Int} (h : LoopS Tryd.prog Tryd.f3 2 0 (E2a st base 0 n m k) [] (.exit 2) (E2x st fin_ n m k) []) : BlkS Tryd.prog Tryd.f3 2 (E2a st base 0 n m k) [] .normal (E2x st fin_ n m k) [] := LoopS.block f3_loop2 (fun x hx => by cases hx) h
theorem law_sem (n k : Int) : Sem Tryd.prog 3 [.pv (iv n), .pv (iv k)] [] (.pv (bv true)) [] := by
  have sa := awake_sem
  by_cases h0 : n < 0
  · refine F3 (iv n) (iv k) (by simp [NSL_cons, NSL_nil]) ?_
    unfold T3
    rw [Den]
    refine .inl ?_
    rw [Den, exN]
    refine ⟨⟨sa, trivial, trivial⟩, ?_⟩
    rw [Den]
    refine .inl ?_
    rw [Den, exN]
    refine ⟨bin_lss.2 (by simp [h0]), ?_⟩
    rw [Den]
    exact ⟨rfl, by simp only [TsA], trivial⟩
  by_cases h6 : 600 < n
  · refine F3 (iv n) (iv k) (by simp [NSL_cons, NSL_nil]) ?_
    unfold T3
    rw [Den]
    refine .inl ?_
    rw [Den, exN]
    refine ⟨⟨sa, trivial, trivial⟩, ?_⟩
    rw [Den]
    refine .inr ?_
    rw [Den, exN]
    refine ⟨bin_lss.2 (by simp; omega), ?_⟩
    rw [Den]
    refine .inl ?_
    rw [Den, exN]
    refine ⟨bin_gtr.2 (by simp [h6]), ?_⟩
    rw [Den]
    exact ⟨rfl, by simp only [TsA], trivial⟩
  obtain ⟨m, rfl⟩ : ∃ m : Nat, n = m := ⟨n.toNat, by omega⟩
  have hm : m ≤ 600 := by omega
  have hK : 0 ≤ IntKind.u64.wrap k := by
    have : IntKind.u64.wrap k = k % 18446744073709551616 := rfl
    omega
  have hr : ∃ r : Int, (IntKind.u64.wrap k).tmod 4 = r ∧ (r = 0 ∨ r = 1 ∨ r = 2 ∨ r = 3) := by
    refine ⟨_, rfl, ?_⟩
    rw [Int.tmod_eq_emod_of_nonneg hK]
    omega
  obtain ⟨r, hr, h⟩ := hr
  have hl0 : (rep m st0).length = m * 1 := rep_len m st0
  have hl1 : (rep m st1).length = m * 6 := rep_len m st1
  have hl2 : (rep m st2).length = m * 17 := rep_len m st2
  have hl3 : (rep m st3).length = m * 8 := rep_len m st3
  have hlt : (rep m tlt).length = m * 5 := rep_len m tlt
  have hlc : (rep m [41]).length = m * 1 := rep_len m [41]
  rcases h with rfl | rfl | rfl | rfl
  · have hb := loop2_0 (rep m st0 ++ [97]) (by simp only [List.length_append, List.length_cons, List.length_nil, hl0, hl3]; omega) m hm (rep m st0).length k m 0 (by omega)
    rw [rep_zero, List.append_nil] at hb
    have hd := deep0 (b := textOf (rep m st0 ++ [97] ++ rep m [41])) hm (by rw [Lx.textOf_data, List.append_assoc]; rfl)
    refine law_core st0 _ 0 m hm k 300 (by decide) hr (by kernel_rfl) (blk2 hb) (deep_x (big_ok (by simp only [List.length_append, List.length_cons, List.length_nil, hl0, hl1, hl2, hl3, hlt, hlc]; omega)) hd) (fun h3 => ?_)
    rw [if_neg (by decide), hl0]
    have : st0.length = 1 := rfl
    rw [this]; omega
  · have hb := loop2_n st1 (rep m st1 ++ [97]) (by decide) (by decide) m hm (rep m st1).length k m 0 (by omega)
    have hd := deep1 (b := textOf (rep m st1 ++ [97])) hm (by rw [Lx.textOf_data])
    refine law_core st1 _ 1 m hm k 1800 (by decide) hr (by kernel_rfl) (blk2 hb) (deep_x (big_ok (by simp only [List.length_append, List.length_cons, List.length_nil, hl0, hl1, hl2, hl3, hlt, hlc]; omega)) hd) (fun h3 => ?_)
    rw [if_neg (by decide), hl1]
    have : st1.length = 6 := rfl
    rw [this]; omega
  · have hb := loop2_n st2 (rep m st2 ++ [97]) (by decide) (by decide) m hm (rep m st2).length k m 0 (by omega)
    have hd := deep2 (b := textOf (rep m st2 ++ [97])) hm (by rw [Lx.textOf_data])
    refine law_core st2 _ 2 m hm k 5086 (by decide) hr (by kernel_rfl) (blk2 hb) (deep_x (big_ok (by simp only [List.length_append, List.length_cons, List.length_nil, hl0, hl1, hl2, hl3, hlt, hlc]; omega)) hd) (fun h3 => ?_)
    rw [if_pos rfl]
    have : st2.length = 17 := rfl
    rw [this]; rfl
  · have hb := loop2_3 (rep m st3 ++ [97]) (by simp only [List.length_append, List.length_cons, List.length_nil, hl0, hl3]; omega) m hm (rep m st3).length k m 0 (by omega)
    rw [rep_zero, List.append_nil] at hb
    have hd := deep3 (b := textOf (rep m st3 ++ [97] ++ rep m tlt)) hm (by rw [Lx.textOf_data, List.append_assoc]; rfl)
    refine law_core st3 _ 3 m hm k 2400 (by decide) hr (by kernel_rfl) (blk2 hb) (deep_x (big_ok (by simp only [List.length_append, List.length_cons, List.length_nil, hl0, hl1, hl2, hl3, hlt, hlc]; omega)) hd) (fun h3 => ?_)
    rw [if_neg (by decide), hl3]
    have : st3.length = 8 := rfl
    rw [this]; omega
end Go.Proofs.YtfphhabaeggenaaDoor
