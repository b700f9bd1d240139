/-
  NARROWER THAN 'FOR EVERY INPUT', by the rows' own cells (each row's printed sentence says how): GroupBinds: loops.
  DERIVED. THE GIVEN ROWS OF THIS SEAT. 4 by the template 'for every input the law returns true; each argument reads behind the call as it read before'; 0 by the template 'total and deterministic' (their statements: YtkfdklocgpgbfaaTotals.lean).
  GIVEN WITH THE SEED: the statements are not yours to turn. If you find one false, say at which input.
  Laid BY PROGRAM, IN A SANDBOX (cutbox-rows.mjs): the forced cells as the released guide's own fill.sh prints them over the translation e0d94e5d2b00fdb4… (all of the seat's roots in one cut). By AI agents, Wed Nov 11 2026. No macro, syntax, notation, axiom, sorry.
-/
import Derived.Test.YtkfdklocgpgbfaaChecked
import GoSem.Claim
import GoSem.ClaimJoined
import GoSem.ClaimMapViews
import Derived.JoinedTies
import Derived.KernelRfl
namespace Go.Proofs.Ytkfdklocgpgbfaa
/- THE CELL 'sum', in the pinned program and in every row, IS THE sha256 OF THE DUMP (.gsa) THAT YtkfdklocgpgbfaaProg.lean LOADS. Nothing in Lean hashes anything: it is a label: what it is worth is what the hold of that sum in a sandbox is worth. -/
noncomputable def Try.pinned : Pinned := { name := "ytkfdklocgpgbfaa", sum := "e0d94e5d2b00fdb4d7035c791aaf9c644941a02c4b0eedcf25c7fa504723e207", checked := Try.checked }
namespace Rows
def none {H : Type} : Left H := { results := [], args := [] }

/-- 'cognatelaw10.GroupOrders': WHATEVER THE INPUT: true; the input reads as it did. -/
def groupOrdersSpec : ChangeSpec := { name := "groupOrders", fn := fun _ => fun
  | [d] => { results := [.lit (.bool true)], args := [d] }
  | _ => none }
def groupOrdersRow : OpenClaim := { program := "ytkfdklocgpgbfaa", sum := "e0d94e5d2b00fdb4d7035c791aaf9c644941a02c4b0eedcf25c7fa504723e207", func := "cognate/cognatelaw10.GroupOrders", spec := "groupOrders", unfollowed := true, recurses := true, apart := false }
def GroupOrdersSaid : Prop := groupOrdersRow.holds Try.pinned (OpenSpec.ofChange groupOrdersSpec)

/-- ITS FALSE NEIGHBOUR: 'it returns false'. Refute it at one input. -/
def groupOrdersWrong : ChangeSpec := { name := "groupOrders", fn := fun _ => fun
  | [d] => { results := [.lit (.bool false)], args := [d] }
  | _ => none }
def GroupOrdersWrongFalsely : Prop := groupOrdersRow.holds Try.pinned (OpenSpec.ofChange groupOrdersWrong)

/-- 'cognatelaw10.GroupBack': WHATEVER THE INPUT: true; the input reads as it did. -/
def groupBackSpec : ChangeSpec := { name := "groupBack", fn := fun _ => fun
  | [d] => { results := [.lit (.bool true)], args := [d] }
  | _ => none }
def groupBackRow : OpenClaim := { program := "ytkfdklocgpgbfaa", sum := "e0d94e5d2b00fdb4d7035c791aaf9c644941a02c4b0eedcf25c7fa504723e207", func := "cognate/cognatelaw10.GroupBack", spec := "groupBack", unfollowed := true, recurses := true, apart := false }
def GroupBackSaid : Prop := groupBackRow.holds Try.pinned (OpenSpec.ofChange groupBackSpec)

/-- ITS FALSE NEIGHBOUR: 'it returns false'. Refute it at one input. -/
def groupBackWrong : ChangeSpec := { name := "groupBack", fn := fun _ => fun
  | [d] => { results := [.lit (.bool false)], args := [d] }
  | _ => none }
def GroupBackWrongFalsely : Prop := groupBackRow.holds Try.pinned (OpenSpec.ofChange groupBackWrong)

/-- 'cognatelaw10.GroupLast': WHATEVER THE INPUT: true; the input reads as it did. -/
def groupLastSpec : ChangeSpec := { name := "groupLast", fn := fun _ => fun
  | [d1, d2] => { results := [.lit (.bool true)], args := [d1, d2] }
  | _ => none }
def groupLastRow : OpenClaim := { program := "ytkfdklocgpgbfaa", sum := "e0d94e5d2b00fdb4d7035c791aaf9c644941a02c4b0eedcf25c7fa504723e207", func := "cognate/cognatelaw10.GroupLast", spec := "groupLast", unfollowed := true, recurses := true, apart := false }
def GroupLastSaid : Prop := groupLastRow.holds Try.pinned (OpenSpec.ofChange groupLastSpec)

/-- ITS FALSE NEIGHBOUR: 'it returns false'. Refute it at one input. -/
def groupLastWrong : ChangeSpec := { name := "groupLast", fn := fun _ => fun
  | [d1, d2] => { results := [.lit (.bool false)], args := [d1, d2] }
  | _ => none }
def GroupLastWrongFalsely : Prop := groupLastRow.holds Try.pinned (OpenSpec.ofChange groupLastWrong)

/-- 'cognatelaw10.GroupBinds': WHATEVER THE INPUT: true; the input reads as it did. -/
def groupBindsSpec : ChangeSpec := { name := "groupBinds", fn := fun _ => fun
  | [d] => { results := [.lit (.bool true)], args := [d] }
  | _ => none }
def groupBindsRow : OpenClaim := { program := "ytkfdklocgpgbfaa", sum := "e0d94e5d2b00fdb4d7035c791aaf9c644941a02c4b0eedcf25c7fa504723e207", func := "cognate/cognatelaw10.GroupBinds", spec := "groupBinds", unfollowed := true, recurses := true, loops := true, apart := false }
def GroupBindsSaid : Prop := groupBindsRow.holds Try.pinned (OpenSpec.ofChange groupBindsSpec)

/-- ITS FALSE NEIGHBOUR: 'it returns false'. Refute it at one input. -/
def groupBindsWrong : ChangeSpec := { name := "groupBinds", fn := fun _ => fun
  | [d] => { results := [.lit (.bool false)], args := [d] }
  | _ => none }
def GroupBindsWrongFalsely : Prop := groupBindsRow.holds Try.pinned (OpenSpec.ofChange groupBindsWrong)

/- THE SECOND FORM. 'bulk': how many values and letters a reading holds, each counted each time it is reached (what is shared counts as often as it is met; a slice's spare places count too). A statement '..UptoSaid' is the law's where the arguments, and the package variables that the reading takes, are together of bulk at most 1048576: NARROWER than '..Said'. Prove '..Said' where nothing that the law and all that it calls make is longer than what came in: it says more and counts as full. Else prove '..UptoSaid'. A law counts once. -/
mutual
def uptoBulk {H : Type} : DataW H → Nat
  | .lit (.string bytes) => bytes.length + 1
  | .lit _ => 1
  | .nil => 1
  | .ptr d => uptoBulk d + 1
  | .slice elems spare => uptoBulkAll elems + uptoBulkAll spare + 1
  | .agg parts => uptoBulkAll parts + 1
  | .iface _ d => uptoBulk d + 1
  | .map entries => uptoBulkEntries entries + 1
  | .held _ => 1
def uptoBulkAll {H : Type} : List (DataW H) → Nat
  | [] => 0
  | d :: r => uptoBulk d + uptoBulkAll r
def uptoBulkEntries {H : Type} : List (Lit × DataW H) → Nat
  | [] => 0
  | x :: r => uptoBulkEntry x + uptoBulkEntries r
def uptoBulkEntry {H : Type} : Lit × DataW H → Nat
  | (.string bytes, d) => bytes.length + uptoBulk d + 1
  | (_, d) => uptoBulk d + 1
 end
def uptoSmall : (H : Type) → List (DataW H) → Bool := fun _ ds => decide (uptoBulkAll ds ≤ 1048576)
def OpenSpec.upto (s : _root_.Go.ChangeSpec) : _root_.Go.OpenSpec := { _root_.Go.OpenSpec.ofChange s with cond := some uptoSmall }

/-- 'cognatelaw10.GroupOrders', WHERE WHAT IT READS IS OF BULK AT MOST 1048576: true; the input reads as it did. -/
def groupOrdersUptoRow : OpenClaim := { program := "ytkfdklocgpgbfaa", sum := "e0d94e5d2b00fdb4d7035c791aaf9c644941a02c4b0eedcf25c7fa504723e207", func := "cognate/cognatelaw10.GroupOrders", spec := "groupOrders", unfollowed := true, recurses := true, apart := false, narrowed := true }
def GroupOrdersUptoSaid : Prop := groupOrdersUptoRow.holds Try.pinned (OpenSpec.upto groupOrdersSpec)

/-- 'cognatelaw10.GroupBack', WHERE WHAT IT READS IS OF BULK AT MOST 1048576: true; the input reads as it did. -/
def groupBackUptoRow : OpenClaim := { program := "ytkfdklocgpgbfaa", sum := "e0d94e5d2b00fdb4d7035c791aaf9c644941a02c4b0eedcf25c7fa504723e207", func := "cognate/cognatelaw10.GroupBack", spec := "groupBack", unfollowed := true, recurses := true, apart := false, narrowed := true }
def GroupBackUptoSaid : Prop := groupBackUptoRow.holds Try.pinned (OpenSpec.upto groupBackSpec)

/-- 'cognatelaw10.GroupLast', WHERE WHAT IT READS IS OF BULK AT MOST 1048576: true; the input reads as it did. -/
def groupLastUptoRow : OpenClaim := { program := "ytkfdklocgpgbfaa", sum := "e0d94e5d2b00fdb4d7035c791aaf9c644941a02c4b0eedcf25c7fa504723e207", func := "cognate/cognatelaw10.GroupLast", spec := "groupLast", unfollowed := true, recurses := true, apart := false, narrowed := true }
def GroupLastUptoSaid : Prop := groupLastUptoRow.holds Try.pinned (OpenSpec.upto groupLastSpec)

/-- 'cognatelaw10.GroupBinds', WHERE WHAT IT READS IS OF BULK AT MOST 1048576: true; the input reads as it did. -/
def groupBindsUptoRow : OpenClaim := { program := "ytkfdklocgpgbfaa", sum := "e0d94e5d2b00fdb4d7035c791aaf9c644941a02c4b0eedcf25c7fa504723e207", func := "cognate/cognatelaw10.GroupBinds", spec := "groupBinds", unfollowed := true, recurses := true, loops := true, apart := false, narrowed := true }
def GroupBindsUptoSaid : Prop := groupBindsUptoRow.holds Try.pinned (OpenSpec.upto groupBindsSpec)

end Rows
end Go.Proofs.Ytkfdklocgpgbfaa
