/- What copying equations answers; the awake run. -/
import Derived.Test.YtnepapfndihalaaBc
set_option linter.unusedVariables false
set_option linter.unusedSimpArgs false
set_option linter.unusedSectionVars false
namespace Go.Proofs.Ytnepapfndihalaa
open Go.RowKit
def ivs (l : List Int) : List (List PV) := l.map fun n => [.lit (.int .i64 n)]
def awkP : List PV → Option Rs
  | [] => some (0, [.lit (.bool true)])
  | _ => none
/-- A row that is not empty, of things of five cells: twice. -/
def cpyP : List PV → Option Rs
  | [.rows (e :: es)] => if (e :: es).all (fun c => decide (c.length = 5)) && decide (es.length ≤ 1000000) then some (0, [.lit (.bool false), .rows (e :: es), .lit (.bool false), .rows (e :: es)]) else none
  | _ => none
end Go.Proofs.Ytnepapfndihalaa
