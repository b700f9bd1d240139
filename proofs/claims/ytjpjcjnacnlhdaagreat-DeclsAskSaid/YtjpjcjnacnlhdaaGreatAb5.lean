/- Operations that only look: the function 'qop', and that it is right. -/
import Derived.Test.YtjpjcjnacnlhdaaGreatAb4
import Derived.Laws.Strings
namespace Go.Proofs.YtjpjcjnacnlhdaaGreat
open Go.RowKit

def boxAt (h : List AObj) (i : Nat) : Option (List AV) := match h[i]? with
  | some (.box _ c) => some c
  | _ => none
/-- The cells from an address on, and the variable that they lie in. -/
def cellsAt (h : List AObj) : AV → Option (List AV × Option Nat)
  | .ptr i o => match boxAt h i with
    | some c => some (c.drop o, some i)
    | none => none
  | .cptr cs => some (cs.map .pv, none)
  | _ => none
def intV : AV → Option Int
  | .pv (.lit (.int _ n)) => some n
  | _ => none
def rowsOf : AV → Option (List (List PV))
  | .pv (.rows es) => some es
  | .trows _ es => some es
  | _ => none
def AV.isThere : AV → Bool
  | .ptr _ _ | .cptr _ | .fn _ _ => true
  | _ => false
def addA : AV → Nat → Option AV
  | .ptr i o, n => some (.ptr i (o + n))
  | .cptr cs, n => some (.cptr (cs.drop n))
  | _, _ => none
def fieldA (P : Program) (s : TypeId) (f : Nat) : Option Field := match P.underlying s with
  | some (.struct fs) => fs[f]?
  | _ => none
def indexAtA (P : Program) (t : TypeId) (x : AV) (i : Int) : Option AV := match P.underlying t with
  | some (.slice e) => match rowsOf x with
    | some es => if 0 ≤ i then match es[i.toNat]? with
        | some c => if szA P e = some c.length then some (.cptr c) else none
        | none => none
      else none
    | none => none
  | some (.array n e) => match szA P e with
    | some s => if 0 ≤ i ∧ i < n then addA x (i.toNat * s) else none
    | none => none
  | _ => none
def indexA (P : Program) (t : TypeId) (x i : AV) : Option AV := match x with
  | .agg l => match P.underlying t, intV i with
    | some (.array n e), some k => match szA P e with
      | some s => if 0 ≤ k ∧ k < n then partA P e l (k.toNat * s) else none
      | none => none
    | _, _ => none
  | x => match x.val?, i.val? with
    | some v, some j => match pureRun P (Instr.index t v j) with
      | some u => ofVal u
      | none => none
    | _, _ => none
/-- '==' of what is there with nil: false. -/
def nilEqA (P : Program) (t : TypeId) (x y : AV) : Bool := match P.underlying t, x, y with
  | some (.pointer _), .ptr _ _, .pv (.lit (.pointer none)) => true
  | some (.pointer _), .cptr _, .pv (.lit (.pointer none)) => true
  | some (.func _ _ _), .fn _ _, .pv (.lit .nilFunc) => true
  | some (.slice _), .trows _ _, .pv (.lit (.slice none 0 0)) => true
  | some (.slice _), .pv (.rows (_ :: _)), .pv (.lit (.slice none 0 0)) => true
  | _, _, _ => false
/-- Are two texts one? -/
def eqL : List UInt8 → List UInt8 → Bool
  | [], [] => true
  | a :: l, b :: r => match Nat.beq a.toNat b.toNat with
    | true => eqL l r
    | false => false
  | _, _ => false
theorem eqL_iff : ∀ (l r : List UInt8), eqL l r = true ↔ l = r
  | [], [] => by simp [eqL]
  | [], _ :: _ => by simp [eqL]
  | _ :: _, [] => by simp [eqL]
  | a :: l, b :: r => by
    rw [eqL]
    cases h : Nat.beq a.toNat b.toNat with
    | true =>
      have e : a = b := UInt8.toNat_inj.1 (Nat.eq_of_beq_eq_true h)
      simp only [eqL_iff l r, e, List.cons.injEq, true_and]
    | false =>
      have e : a ≠ b := fun e => Nat.ne_of_beq_eq_false h (by rw [e])
      simp [e]
def eqS (x y : ByteArray) : Bool := eqL x.data.toList y.data.toList
theorem eqS_eq (x y : ByteArray) : (x.toList == y.toList) = eqS x y := by
  rw [ByteArray.toList_eq, ByteArray.toList_eq]
  unfold eqS
  rw [Bool.eq_iff_iff, eqL_iff]
  simp
/-- Comparisons of what is not known outright. -/
def symA (b : BinOp) (u v : AV) : Option Bool := match b, u, v with
  | .eql, .pv (.opq ne _ _), .pv (.lit (.string s)) => if ne.any (eqS s) then some false else none
  | .neq, .pv (.opq ne _ _), .pv (.lit (.string s)) => if ne.any (eqS s) then some true else none
  | .eql, .pv (.lit (.string s)), .pv (.opq ne _ _) => if ne.any (eqS s) then some false else none
  | .neq, .pv (.lit (.string s)), .pv (.opq ne _ _) => if ne.any (eqS s) then some true else none
  | .gtr, .pv (.rng lo hi), .pv (.lit (.int .i64 m)) => if m < (lo : Int) then some true else if (hi : Int) ≤ m then some false else none
  | _, _, _ => none
/-- Two texts. -/
def fastA (b : BinOp) (p q : Value) : Option Bool := match p, q with
  | .string x, .string y => match b with
    | .eql => some (eqS x y)
    | .neq => some (!eqS x y)
    | _ => none
  | _, _ => none
def binA (P : Program) (b : BinOp) (t : TypeId) (x y : Operand) (u v : AV) : Option AV := match u.val?, v.val? with
  | some p, some q => match fastA b p q with
    | some r => some (.pv (.lit (.bool r)))
    | none => match pureRun P (do eqGuard b t x y p q; binOp b t p q) with
      | some r => ofVal r
      | none => none
  | _, _ => if nilEqA P t u v then match b with
      | .eql => some (.pv (.lit (.bool false)))
      | .neq => some (.pv (.lit (.bool true)))
      | _ => none
    else match symA b u v with
      | some r => some (.pv (.lit (.bool r)))
      | none => none
/-- The bounds of a slice expression. -/
def boundA (ρ : Operand → Option AV) (d : Nat) : Option Operand → Option Nat
  | none => some d
  | some x => match ρ x with
    | some v => match intV v with
      | some n => if 0 ≤ n then some n.toNat else none
      | none => none
    | none => none
def valsA (ρ : Operand → Option AV) : Option Operand → Option (Option Value)
  | none => some none
  | some x => match ρ x with
    | some v => v.val?.map some
    | none => none
def sliceA (P : Program) (t : TypeId) (ρ : Operand → Option AV) (x : AV) (lo hi mx : Option Operand) : Option AV := match rowsOf x with
  | some es => match P.underlying t, boundA ρ 0 lo, boundA ρ es.length hi, mx with
    | some (.slice e), some l, some r, none => match szA P e with
      | some s => if l ≤ r ∧ r ≤ es.length ∧ (l = 0 ∨ es.head?.map List.length = some s) then some (.pv (.rows ((es.drop l).take (r - l)))) else none
      | none => none
    | _, _, _, _ => none
  | none => match x.val?, valsA ρ lo, valsA ρ hi, valsA ρ mx with
    | some v, some l, some r, some m => match pureRun P (Instr.sliceAt t v l r m) with
      | some u => ofVal u
      | none => none
    | _, _, _, _ => none
def litsL : List AV → Option (List Value)
  | [] => some []
  | a :: l => match a.val?, litsL l with
    | some v, some r => some (v :: r)
    | _, _ => none
def lenA (P : Program) (ts : Array TypeId) (x : AV) : Option AV := match x, ts[0]? with
  | .pv (.opq _ lo hi), some t => match P.underlying t with
    | some .string => some (.pv (.rng lo hi))
    | _ => none
  | x, some t => match rowsOf x with
    | some es => match P.underlying t with
      | some (.slice _) => some (.pv (.lit (.int .i64 es.length)))
      | _ => none
    | none => none
  | _, _ => none
def builtinA (P : Program) (b : Builtin) (ts : Array TypeId) (ty : TypeId) (vs : List AV) : Option AV := match b with
  | .len => match vs with
    | [x] => match lenA P ts x with
      | some r => some r
      | none => match x.val? with
        | some v => match pureRun P (Builtin.len_ ts ty #[v]) with
          | some u => ofVal u
          | none => none
        | none => none
    | _ => none
  | .min => match litsL vs with
    | some us => match pureRun P (Builtin.min_ ts ty us.toArray) with
      | some u => ofVal u
      | none => none
    | none => none
  | .max => match litsL vs with
    | some us => match pureRun P (Builtin.max_ ts ty us.toArray) with
      | some u => ofVal u
      | none => none
    | none => none
  | _ => none
def qop (P : Program) (op : Op) (ty : TypeId) (ρ : Operand → Option AV) (h : List AObj) : Option (AV × Option Nat) :=
  match op with
  | .move x => (ρ x).map fun v => (v, none)
  | .assign x => (ρ x).map fun v => (v, none)
  | .pick c a b => match ρ c with
    | some (.pv (.lit (.bool t))) => (if t then ρ a else ρ b).map fun v => (v, none)
    | _ => none
  | .nilCheck x => match ρ x with
    | some v => if v.isThere then some (v, none) else none
    | none => none
  | .load t x => match ρ x with
    | some a => match cellsAt h a with
      | some (l, d) => (loadA P t l).map fun v => (v, d)
      | none => none
    | none => none
  | .fieldAddr s x f => match ρ x, fieldA P s f with
    | some a, some fl => match szA P fl.type with
      | some (_ + 1) => (addA a fl.offset).map fun v => (v, none)
      | _ => none
    | _, _ => none
  | .field s x f => match ρ x, fieldA P s f with
    | some (.agg l), some fl => (partA P fl.type l fl.offset).map fun v => (v, none)
    | _, _ => none
  | .indexAddr t x i => match ρ x, ρ i with
    | some a, some v => match intV v with
      | some n => (indexAtA P t a n).map fun v => (v, none)
      | none => none
    | _, _ => none
  | .index t x i => match ρ x, ρ i with
    | some a, some v => (indexA P t a v).map fun v => (v, none)
    | _, _ => none
  | .extract x i => match ρ x with
    | some (.tup l) => l[i]?.map fun v => (v, none)
    | _ => none
  | .binOp b t x y _ => match ρ x, ρ y with
    | some u, some v => (binA P b t x y u v).map fun v => (v, none)
    | _, _ => none
  | .unOp u _ x => match ρ x with
    | some v => match v.val? with
      | some a => match pureRun P (Op.unary u a) with
        | some r => (ofVal r).map fun v => (v, none)
        | none => none
      | none => none
    | none => none
  | .convert s d x => match ρ x with
    | some v => match v.val? with
      | some a => match pureRun P (convert s d a) with
        | some r => (ofVal r).map fun v => (v, none)
        | none => none
      | none => none
    | none => none
  | .slice t x lo hi mx => match ρ x with
    | some a => (sliceA P t ρ a lo hi mx).map fun v => (v, none)
    | none => none
  | .makeFunc (.func f) first caps => if first.isEmpty then match opsA ρ caps.toList with
      | some l => some (.fn f l, none)
      | none => none
    else none
  | .build t parts => match partsA ρ parts.toList with
    | some ps => (buildA P t ps).map fun l => (.agg l, none)
    | none => none
  | .call ⟨.builtin b, args, ts⟩ => match opsA ρ args.toList with
    | some vs => (builtinA P b ts ty vs).map fun v => (v, none)
    | none => none
  | _ => none
end Go.Proofs.YtjpjcjnacnlhdaaGreat
