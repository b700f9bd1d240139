/-
  NARROWER THAN 'FOR EVERY INPUT', by the rows' own cells (each row's printed sentence says how): DeclsRaw: loops · DeclsAsk: loops.
  DERIVED. THE GIVEN ROWS OF THIS SEAT. 3 by the template 'for every input the law returns true; each argument reads behind the call as it read before'; 0 by the template 'total and deterministic' (their statements: YtjpjcjnacnlhdaaGreatTotals.lean).
  GIVEN WITH THE SEED: the statements are not yours to turn. If you find one false, say at which input.
  Laid BY PROGRAM, IN A SANDBOX (cutbox-rows.mjs): the forced cells as the released guide's own fill.sh prints them over the translation af45d6bdbe1be76d… (all of the seat's roots in one cut). By AI agents, Wed Nov 11 2026. No macro, syntax, notation, axiom, sorry.
-/
import Derived.Test.YtjpjcjnacnlhdaaGreatChecked
import GoSem.Claim
import GoSem.ClaimJoined
import GoSem.ClaimMapViews
import Derived.JoinedTies
import Derived.KernelRfl
namespace Go.Proofs.YtjpjcjnacnlhdaaGreat
/- THE CELL 'sum', in the pinned program and in every row, IS THE sha256 OF THE DUMP (.gsa) THAT YtjpjcjnacnlhdaaGreatProg.lean LOADS. Nothing in Lean hashes anything: it is a label: what it is worth is what the hold of that sum in a sandbox is worth. -/
noncomputable def Tryz.pinned : Pinned := { name := "ytjpjcjnacnlhdaagreat", sum := "af45d6bdbe1be76deafebb4e138a88fd8a465ad188bd52e6bdee2b56c59f2b92", checked := Tryz.checked }
namespace Rows
def none {H : Type} : Left H := { results := [], args := [] }

/-- 'cognatelaw11.DeclsCheck': WHATEVER THE INPUT: true; the input reads as it did. -/
def declsCheckSpec : ChangeSpec := { name := "declsCheck", fn := fun _ => fun
  | [d] => { results := [.lit (.bool true)], args := [d] }
  | _ => none }
def declsCheckRow : OpenClaim := { program := "ytjpjcjnacnlhdaagreat", sum := "af45d6bdbe1be76deafebb4e138a88fd8a465ad188bd52e6bdee2b56c59f2b92", func := "cognate/cognatelaw11.DeclsCheck", spec := "declsCheck", unfollowed := true, recurses := true, plainKeys := false, apart := false }
def DeclsCheckSaid : Prop := declsCheckRow.holds Tryz.pinned (OpenSpec.ofChange declsCheckSpec)

/-- ITS FALSE NEIGHBOUR: 'it returns false'. Refute it at one input. -/
def declsCheckWrong : ChangeSpec := { name := "declsCheck", fn := fun _ => fun
  | [d] => { results := [.lit (.bool false)], args := [d] }
  | _ => none }
def DeclsCheckWrongFalsely : Prop := declsCheckRow.holds Tryz.pinned (OpenSpec.ofChange declsCheckWrong)

/-- 'cognatelaw11.DeclsRaw': WHATEVER THE INPUT: true; the input reads as it did. -/
def declsRawSpec : ChangeSpec := { name := "declsRaw", fn := fun _ => fun
  | [d] => { results := [.lit (.bool true)], args := [d] }
  | _ => none }
def declsRawRow : OpenClaim := { program := "ytjpjcjnacnlhdaagreat", sum := "af45d6bdbe1be76deafebb4e138a88fd8a465ad188bd52e6bdee2b56c59f2b92", func := "cognate/cognatelaw11.DeclsRaw", spec := "declsRaw", unfollowed := true, recurses := true, loops := true, plainKeys := false, apart := false }
def DeclsRawSaid : Prop := declsRawRow.holds Tryz.pinned (OpenSpec.ofChange declsRawSpec)

/-- ITS FALSE NEIGHBOUR: 'it returns false'. Refute it at one input. -/
def declsRawWrong : ChangeSpec := { name := "declsRaw", fn := fun _ => fun
  | [d] => { results := [.lit (.bool false)], args := [d] }
  | _ => none }
def DeclsRawWrongFalsely : Prop := declsRawRow.holds Tryz.pinned (OpenSpec.ofChange declsRawWrong)

/-- 'cognatelaw11.DeclsAsk': WHATEVER THE INPUT: true; the input reads as it did. -/
def declsAskSpec : ChangeSpec := { name := "declsAsk", fn := fun _ => fun
  | [d1, d2, d3] => { results := [.lit (.bool true)], args := [d1, d2, d3] }
  | _ => none }
def declsAskRow : OpenClaim := { program := "ytjpjcjnacnlhdaagreat", sum := "af45d6bdbe1be76deafebb4e138a88fd8a465ad188bd52e6bdee2b56c59f2b92", func := "cognate/cognatelaw11.DeclsAsk", spec := "declsAsk", unfollowed := true, recurses := true, loops := true, plainKeys := false, apart := false }
def DeclsAskSaid : Prop := declsAskRow.holds Tryz.pinned (OpenSpec.ofChange declsAskSpec)

/-- ITS FALSE NEIGHBOUR: 'it returns false'. Refute it at one input. -/
def declsAskWrong : ChangeSpec := { name := "declsAsk", fn := fun _ => fun
  | [d1, d2, d3] => { results := [.lit (.bool false)], args := [d1, d2, d3] }
  | _ => none }
def DeclsAskWrongFalsely : Prop := declsAskRow.holds Tryz.pinned (OpenSpec.ofChange declsAskWrong)

/- THE SECOND FORM. 'bulk': how many values and letters a reading holds, each counted each time it is reached (what is shared counts as often as it is met; a slice's spare places count too). A statement '..UptoSaid' is the law's where the arguments, and the package variables that the reading takes, are together of bulk at most 1048576: NARROWER than '..Said'. Prove '..Said' where nothing that the law and all that it calls make is longer than what came in: it says more and counts as full. Else prove '..UptoSaid'. A law counts once. -/
mutual
def uptoBulk {H : Type} : DataW H → Nat
  | .lit (.string bytes) => bytes.length + 1
  | .lit _ => 1
  | .nil => 1
  | .ptr d => uptoBulk d + 1
  | .slice elems spare => uptoBulkAll elems + uptoBulkAll spare + 1
  | .agg parts => uptoBulkAll parts + 1
  | .iface _ d => uptoBulk d + 1
  | .map entries => uptoBulkEntries entries + 1
  | .held _ => 1
def uptoBulkAll {H : Type} : List (DataW H) → Nat
  | [] => 0
  | d :: r => uptoBulk d + uptoBulkAll r
def uptoBulkEntries {H : Type} : List (Lit × DataW H) → Nat
  | [] => 0
  | x :: r => uptoBulkEntry x + uptoBulkEntries r
def uptoBulkEntry {H : Type} : Lit × DataW H → Nat
  | (.string bytes, d) => bytes.length + uptoBulk d + 1
  | (_, d) => uptoBulk d + 1
 end
def uptoSmall : (H : Type) → List (DataW H) → Bool := fun _ ds => decide (uptoBulkAll ds ≤ 1048576)
def OpenSpec.upto (s : _root_.Go.ChangeSpec) : _root_.Go.OpenSpec := { _root_.Go.OpenSpec.ofChange s with cond := some uptoSmall }

/-- 'cognatelaw11.DeclsCheck', WHERE WHAT IT READS IS OF BULK AT MOST 1048576: true; the input reads as it did. -/
def declsCheckUptoRow : OpenClaim := { program := "ytjpjcjnacnlhdaagreat", sum := "af45d6bdbe1be76deafebb4e138a88fd8a465ad188bd52e6bdee2b56c59f2b92", func := "cognate/cognatelaw11.DeclsCheck", spec := "declsCheck", unfollowed := true, recurses := true, plainKeys := false, apart := false, narrowed := true }
def DeclsCheckUptoSaid : Prop := declsCheckUptoRow.holds Tryz.pinned (OpenSpec.upto declsCheckSpec)

/-- 'cognatelaw11.DeclsRaw', WHERE WHAT IT READS IS OF BULK AT MOST 1048576: true; the input reads as it did. -/
def declsRawUptoRow : OpenClaim := { program := "ytjpjcjnacnlhdaagreat", sum := "af45d6bdbe1be76deafebb4e138a88fd8a465ad188bd52e6bdee2b56c59f2b92", func := "cognate/cognatelaw11.DeclsRaw", spec := "declsRaw", unfollowed := true, recurses := true, loops := true, plainKeys := false, apart := false, narrowed := true }
def DeclsRawUptoSaid : Prop := declsRawUptoRow.holds Tryz.pinned (OpenSpec.upto declsRawSpec)

/-- 'cognatelaw11.DeclsAsk', WHERE WHAT IT READS IS OF BULK AT MOST 1048576: true; the input reads as it did. -/
def declsAskUptoRow : OpenClaim := { program := "ytjpjcjnacnlhdaagreat", sum := "af45d6bdbe1be76deafebb4e138a88fd8a465ad188bd52e6bdee2b56c59f2b92", func := "cognate/cognatelaw11.DeclsAsk", spec := "declsAsk", unfollowed := true, recurses := true, loops := true, plainKeys := false, apart := false, narrowed := true }
def DeclsAskUptoSaid : Prop := declsAskUptoRow.holds Tryz.pinned (OpenSpec.upto declsAskSpec)

end Rows
end Go.Proofs.YtjpjcjnacnlhdaaGreat
