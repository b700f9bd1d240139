/-
  NARROWER THAN 'FOR EVERY INPUT', by the rows' own cells (each row's printed sentence says how): UnifySwap: loops · UnifyKeeps: loops.
  DERIVED. THE GIVEN ROWS OF THIS SEAT. 2 by the template 'for every input the law returns true; each argument reads behind the call as it read before'; 0 by the template 'total and deterministic' (their statements: YtnepapfndihalaaTotals.lean).
  GIVEN WITH THE SEED: the statements are not yours to turn. If you find one false, say at which input.
  Laid BY PROGRAM, IN A SANDBOX (cutbox-rows.mjs): the forced cells as the released guide's own fill.sh prints them over the translation 7f1a60ac7d6010bb… (all of the seat's roots in one cut). By AI agents, Wed Nov 11 2026. No macro, syntax, notation, axiom, sorry.
-/
import Derived.Test.YtnepapfndihalaaChecked
import GoSem.Claim
import GoSem.ClaimJoined
import GoSem.ClaimMapViews
import Derived.JoinedTies
import Derived.KernelRfl
namespace Go.Proofs.Ytnepapfndihalaa
/- THE CELL 'sum', in the pinned program and in every row, IS THE sha256 OF THE DUMP (.gsa) THAT YtnepapfndihalaaProg.lean LOADS. Nothing in Lean hashes anything: it is a label: what it is worth is what the hold of that sum in a sandbox is worth. -/
noncomputable def Try.pinned : Pinned := { name := "ytnepapfndihalaa", sum := "7f1a60ac7d6010bb54bb41742e0cecbba72d3a67ae6d7348a0272524e67f442d", checked := Try.checked }
namespace Rows
def none {H : Type} : Left H := { results := [], args := [] }

/-- 'cognatelaw09.UnifySwap': WHATEVER THE INPUT: true; the input reads as it did. -/
def unifySwapSpec : ChangeSpec := { name := "unifySwap", fn := fun _ => fun
  | [d1, d2] => { results := [.lit (.bool true)], args := [d1, d2] }
  | _ => none }
def unifySwapRow : OpenClaim := { program := "ytnepapfndihalaa", sum := "7f1a60ac7d6010bb54bb41742e0cecbba72d3a67ae6d7348a0272524e67f442d", func := "cognate/cognatelaw09.UnifySwap", spec := "unifySwap", unfollowed := true, recurses := true, loops := true, apart := false }
def UnifySwapSaid : Prop := unifySwapRow.holds Try.pinned (OpenSpec.ofChange unifySwapSpec)

/-- ITS FALSE NEIGHBOUR: 'it returns false'. Refute it at one input. -/
def unifySwapWrong : ChangeSpec := { name := "unifySwap", fn := fun _ => fun
  | [d1, d2] => { results := [.lit (.bool false)], args := [d1, d2] }
  | _ => none }
def UnifySwapWrongFalsely : Prop := unifySwapRow.holds Try.pinned (OpenSpec.ofChange unifySwapWrong)

/-- 'cognatelaw09.UnifyKeeps': WHATEVER THE INPUT: true; the input reads as it did. -/
def unifyKeepsSpec : ChangeSpec := { name := "unifyKeeps", fn := fun _ => fun
  | [d1, d2] => { results := [.lit (.bool true)], args := [d1, d2] }
  | _ => none }
def unifyKeepsRow : OpenClaim := { program := "ytnepapfndihalaa", sum := "7f1a60ac7d6010bb54bb41742e0cecbba72d3a67ae6d7348a0272524e67f442d", func := "cognate/cognatelaw09.UnifyKeeps", spec := "unifyKeeps", unfollowed := true, recurses := true, loops := true, apart := false }
def UnifyKeepsSaid : Prop := unifyKeepsRow.holds Try.pinned (OpenSpec.ofChange unifyKeepsSpec)

/-- ITS FALSE NEIGHBOUR: 'it returns false'. Refute it at one input. -/
def unifyKeepsWrong : ChangeSpec := { name := "unifyKeeps", fn := fun _ => fun
  | [d1, d2] => { results := [.lit (.bool false)], args := [d1, d2] }
  | _ => none }
def UnifyKeepsWrongFalsely : Prop := unifyKeepsRow.holds Try.pinned (OpenSpec.ofChange unifyKeepsWrong)

/- THE SECOND FORM. 'bulk': how many values and letters a reading holds, each counted each time it is reached (what is shared counts as often as it is met; a slice's spare places count too). A statement '..UptoSaid' is the law's where the arguments, and the package variables that the reading takes, are together of bulk at most 1048576: NARROWER than '..Said'. Prove '..Said' where nothing that the law and all that it calls make is longer than what came in: it says more and counts as full. Else prove '..UptoSaid'. A law counts once. -/
mutual
def uptoBulk {H : Type} : DataW H → Nat
  | .lit (.string bytes) => bytes.length + 1
  | .lit _ => 1
  | .nil => 1
  | .ptr d => uptoBulk d + 1
  | .slice elems spare => uptoBulkAll elems + uptoBulkAll spare + 1
  | .agg parts => uptoBulkAll parts + 1
  | .iface _ d => uptoBulk d + 1
  | .map entries => uptoBulkEntries entries + 1
  | .held _ => 1
def uptoBulkAll {H : Type} : List (DataW H) → Nat
  | [] => 0
  | d :: r => uptoBulk d + uptoBulkAll r
def uptoBulkEntries {H : Type} : List (Lit × DataW H) → Nat
  | [] => 0
  | x :: r => uptoBulkEntry x + uptoBulkEntries r
def uptoBulkEntry {H : Type} : Lit × DataW H → Nat
  | (.string bytes, d) => bytes.length + uptoBulk d + 1
  | (_, d) => uptoBulk d + 1
 end
def uptoSmall : (H : Type) → List (DataW H) → Bool := fun _ ds => decide (uptoBulkAll ds ≤ 1048576)
def OpenSpec.upto (s : _root_.Go.ChangeSpec) : _root_.Go.OpenSpec := { _root_.Go.OpenSpec.ofChange s with cond := some uptoSmall }

/-- 'cognatelaw09.UnifySwap', WHERE WHAT IT READS IS OF BULK AT MOST 1048576: true; the input reads as it did. -/
def unifySwapUptoRow : OpenClaim := { program := "ytnepapfndihalaa", sum := "7f1a60ac7d6010bb54bb41742e0cecbba72d3a67ae6d7348a0272524e67f442d", func := "cognate/cognatelaw09.UnifySwap", spec := "unifySwap", unfollowed := true, recurses := true, loops := true, apart := false, narrowed := true }
def UnifySwapUptoSaid : Prop := unifySwapUptoRow.holds Try.pinned (OpenSpec.upto unifySwapSpec)

/-- 'cognatelaw09.UnifyKeeps', WHERE WHAT IT READS IS OF BULK AT MOST 1048576: true; the input reads as it did. -/
def unifyKeepsUptoRow : OpenClaim := { program := "ytnepapfndihalaa", sum := "7f1a60ac7d6010bb54bb41742e0cecbba72d3a67ae6d7348a0272524e67f442d", func := "cognate/cognatelaw09.UnifyKeeps", spec := "unifyKeeps", unfollowed := true, recurses := true, loops := true, apart := false, narrowed := true }
def UnifyKeepsUptoSaid : Prop := unifyKeepsUptoRow.holds Try.pinned (OpenSpec.upto unifyKeepsSpec)

end Rows
end Go.Proofs.Ytnepapfndihalaa
