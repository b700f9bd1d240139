/- The equations of the entries. Printed by hq2.py. -/
import Derived.Test.YtkamjbmjjhbjcaaGreatDoorSz0
import Derived.KernelRfl
namespace Go.Proofs.YtkamjbmjjhbjcaaGreatDoor
open Go.RowKit
set_option linter.unusedVariables false
set_option maxRecDepth 100000
variable (O : Q → Option Rs)
theorem h12 (a b c d e) : body PG EE TT O (q12 a b c d e) = g12 (T := Sm) a b c d e O := by kernel_rfl
theorem h12b0a (a b c d e f) : body PG EE TT O (q12b0a a b c d e f) = g12b0a (T := Sm) a b c d e f O := by kernel_rfl
theorem h13 (a b c d e) : body PG EE TT O (q13 a b c d e) = g13 (T := Sm) a b c d e O := by kernel_rfl
theorem h13b0a (a b c d e f g) : body PG EE TT O (q13b0a a b c d e f g) = g13b0a (T := Sm) a b c d e f g O := by kernel_rfl
theorem h14 (a b c d) : body PG EE TT O (q14 a b c d) = g14 (T := Sm) a b c d O := by kernel_rfl
theorem h14b0a (a b c d e) : body PG EE TT O (q14b0a a b c d e) = g14b0a (T := Sm) a b c d e O := by kernel_rfl
theorem h15 (a b c d) : body PG EE TT O (q15 a b c d) = g15 (T := Sm) a b c d O := by kernel_rfl
theorem h15b0a (a b c d e f) : body PG EE TT O (q15b0a a b c d e f) = g15b0a (T := Sm) a b c d e f O := by kernel_rfl
theorem h16 (a b c d e) : body PG EE TT O (q16 a b c d e) = g16 (T := Sm) a b c d e O := by kernel_rfl
theorem h16b1a (a b c d) : body PG EE TT O (q16b1a a b c d) = g16b1a (T := Sm) a b c d O := by kernel_rfl
theorem h17 (a b c d) : body PG EE TT O (q17 a b c d) = g17 (T := Sm) a b c d O := by kernel_rfl
theorem h29 (a b c d) : body PG EE TT O (q29 a b c d) = g29 (T := Sm) a b c d O := by kernel_rfl
theorem h32 (a b c d e) : body PG EE TT O (q32 a b c d e) = g32 (T := Sm) a b c d e O := by kernel_rfl
theorem h42 (a b c d) : body PG EE TT O (q42 a b c d) = g42 (T := Sm) a b c d O := by kernel_rfl
theorem h44 (a b c d) : body PG EE TT O (q44 a b c d) = g44 (T := Sm) a b c d O := by kernel_rfl
theorem h44b0a (a b c d) : body PG EE TT O (q44b0a a b c d) = g44b0a (T := Sm) a b c d O := by kernel_rfl
theorem h88 (a b c d) : body PG EE TT O (q88 a b c d) = g88 (T := Sm) a b c d O := by kernel_rfl
theorem h41 (a) : body PG EE TT O (q41 a) = g41 (T := Sm) a O := by kernel_rfl
theorem h84 (a) : body PG EE TT O (q84 a) = g84 (T := Sm) a O := by kernel_rfl
theorem h85 (a) : body PG EE TT O (q85 a) = g85 (T := Sm) a O := by kernel_rfl
theorem h85b0a (a b) : body PG EE TT O (q85b0a a b) = g85b0a (T := Sm) a b O := by kernel_rfl
theorem h86 (a) : body PG EE TT O (q86 a) = g86 (T := Sm) a O := by kernel_rfl
theorem h127 (a) : body PG EE TT O (q127 a) = g127 (T := Sm) a O := by kernel_rfl
theorem h128 (a) : body PG EE TT O (q128 a) = g128 (T := Sm) a O := by kernel_rfl
theorem h74a (a) : body PG EE TT O (q74a a) = g74a (T := Sm) a O := by kernel_rfl
theorem h74ab0a (a b c) : body PG EE TT O (q74ab0a a b c) = g74ab0a (T := Sm) a b c O := by kernel_rfl
theorem h75a (a) : body PG EE TT O (q75a a) = g75a (T := Sm) a O := by kernel_rfl
theorem h75ab0a (a b c) : body PG EE TT O (q75ab0a a b c) = g75ab0a (T := Sm) a b c O := by kernel_rfl
theorem h72 (a) : body PG EE TT O (q72 a) = extK (extL1 xUp [a]) := by kernel_rfl
theorem h73 (a) : body PG EE TT O (q73 a) = extK (extL1 xLow [a]) := by kernel_rfl
theorem h39 (a) : body PG EE TT O (q39 a) = extK (extL1 xUp [a]) := by kernel_rfl
theorem h40 (a) : body PG EE TT O (q40 a) = extK (extL1 xLow [a]) := by kernel_rfl
theorem h43 (a) : body PG EE TT O (q43 a) = extK (extL1 xTxt [a]) := by kernel_rfl
end Go.Proofs.YtkamjbmjjhbjcaaGreatDoor
