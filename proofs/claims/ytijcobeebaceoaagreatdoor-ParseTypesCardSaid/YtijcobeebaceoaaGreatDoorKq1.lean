/- The equations of the entries. Printed by hq2.py. -/
import Derived.Test.YtijcobeebaceoaaGreatDoorKz0
import Derived.KernelRfl
namespace Go.Proofs.YtijcobeebaceoaaGreatDoor
open Go.RowKit
set_option linter.unusedVariables false
set_option maxRecDepth 100000
variable (O : Q → Option Rs)
theorem h21a (a b c) : body PG EE TT O (q21a a b c) = g21a (T := Sm) a b c O := by kernel_rfl
theorem h44a (a b c d) : body PG EE TT O (q44a a b c d) = g44a (T := Sm) a b c d O := by kernel_rfl
theorem h45a (a b c) : body PG EE TT O (q45a a b c) = g45a (T := Sm) a b c O := by kernel_rfl
theorem h46a (a b c) : body PG EE TT O (q46a a b c) = g46a (T := Sm) a b c O := by kernel_rfl
theorem h46ab0a (a b c d e f) : body PG EE TT O (q46ab0a a b c d e f) = g46ab0a (T := Sm) a b c d e f O := by kernel_rfl
theorem h46ab0b (a b c d e f g) : body PG EE TT O (q46ab0b a b c d e f g) = g46ab0b (T := Sm) a b c d e f (.rows g) O := by kernel_rfl
theorem h47a (a b c d) : body PG EE TT O (q47a a b c d) = g47a (T := Sm) a b c d O := by kernel_rfl
theorem h54a (a b c) : body PG EE TT O (q54a a b c) = g54a (T := Sm) a b c O := by kernel_rfl
theorem h73a (a b c d e) : body PG EE TT O (q73a a b c d e) = g73a (T := Sm) a b c d e O := by kernel_rfl
theorem h71a (a b c) : body PG EE TT O (q71a a b c) = g71a (T := Sm) a b c O := by kernel_rfl
theorem h80a (a b c) : body PG EE TT O (q80a a b c) = g80a (T := Sm) a b c O := by kernel_rfl
theorem h81a (a b c) : body PG EE TT O (q81a a b c) = g81a (T := Sm) a b c O := by kernel_rfl
theorem h82a (a b c d) : body PG EE TT O (q82a a b c d) = g82a (T := Sm) a b c d O := by kernel_rfl
theorem h58a (a b c d) : body PG EE TT O (q58a a b c d) = g58a (T := Sm) a b c d O := by kernel_rfl
theorem h8 (a) : body PG EE TT O (q8 a) = g8 (T := Sm) a O := by kernel_rfl
theorem h23a (a b c d e) : body PG EE TT O (q23a a b c d e) = g23a (T := Sm) a b c d e O := by kernel_rfl
theorem h23ab0a (a b c d e f g h) : body PG EE TT O (q23ab0a a b c d e f g h) = g23ab0a (T := Sm) a b c d e f g h O := by kernel_rfl
theorem h23ab0b (a b c d e f g h i) : body PG EE TT O (q23ab0b a b c d e f g h i) = g23ab0b (T := Sm) a b c d e f g h (.rows i) O := by kernel_rfl
theorem h24a (a b c d e f g) : body PG EE TT O (q24a a b c d e f g) = g24a (T := Sm) a b c d e f g O := by kernel_rfl
theorem h50a (a b c d e) : body PG EE TT O (q50a a b c d e) = g50a (T := Sm) a b c d e O := by kernel_rfl
theorem h28a (a b c d e) : body PG EE TT O (q28a a b c d e) = g28a (T := Sm) a b c d e O := by kernel_rfl
theorem h29a (a b c d e f) : body PG EE TT O (q29a a b c d e f) = g29a (T := Sm) a b c d e f O := by kernel_rfl
theorem h52a (a b c d e) : body PG EE TT O (q52a a b c d e) = g52a (T := Sm) a b c d e O := by kernel_rfl
theorem h51a (a b c d e f) : body PG EE TT O (q51a a b c d e f) = g51a (T := Sm) a b c d e f O := by kernel_rfl
theorem h49a (a b c d e f g) : body PG EE TT O (q49a a b c d e f g) = g49a (T := Sm) a b c d e f g O := by kernel_rfl
theorem h60a (a b c d e f) : body PG EE TT O (q60a a b c d e f) = g60a (T := Sm) a b c d e f O := by kernel_rfl
theorem h22 (a) : body PG EE TT O (q22 a) = g22 (T := Sm) a O := by kernel_rfl
theorem h48 (a) : body PG EE TT O (q48 a) = g48 (T := Sm) a O := by kernel_rfl
theorem h48b0a (a b) : body PG EE TT O (q48b0a a b) = g48b0a (T := Sm) a b O := by kernel_rfl
theorem h48b0b (a b c) : body PG EE TT O (q48b0b a b c) = g48b0b (T := Sm) a b (.rows c) O := by kernel_rfl
theorem h83 (a) : body PG EE TT O (q83 a) = g83 (T := Sm) a O := by kernel_rfl
theorem h83b0a (a b) : body PG EE TT O (q83b0a a b) = g83b0a (T := Sm) a b O := by kernel_rfl
theorem h84 (a b) : body PG EE TT O (q84 a b) = g84 (T := Sm) a b O := by kernel_rfl
theorem h84b0a (a b) : body PG EE TT O (q84b0a a b) = g84b0a (T := Sm) a b O := by kernel_rfl
theorem h84b2a (a b) : body PG EE TT O (q84b2a a b) = g84b2a (T := Sm) a b O := by kernel_rfl
theorem h85 (a b) : body PG EE TT O (q85 a b) = g85 (T := Sm) a b O := by kernel_rfl
theorem h85b0a (a b c d) : body PG EE TT O (q85b0a a b c d) = g85b0a (T := Sm) a b c d O := by kernel_rfl
theorem h112 (a b) : body PG EE TT O (q112 a b) = g112 (T := Sm) a b O := by kernel_rfl
theorem h112b0a (a b c d) : body PG EE TT O (q112b0a a b c d) = g112b0a (T := Sm) a b c d O := by kernel_rfl
theorem h112b0b (a b c d) : body PG EE TT O (q112b0b a b c d) = g112b0b (T := Sm) a b c d O := by kernel_rfl
theorem h112b0c (a b c d) : body PG EE TT O (q112b0c a b c d) = g112b0c (T := Sm) a b c d O := by kernel_rfl
theorem h113 (a) : body PG EE TT O (q113 a) = g113 (T := Sm) a O := by kernel_rfl
theorem h114 (a b) : body PG EE TT O (q114 a b) = g114 (T := Sm) a b O := by kernel_rfl
theorem h114b0a (a b) : body PG EE TT O (q114b0a a b) = g114b0a (T := Sm) a b O := by kernel_rfl
theorem h114b0b (a b c) : body PG EE TT O (q114b0b a b c) = g114b0b (T := Sm) a b (.rows c) O := by kernel_rfl
theorem h115 (a) : body PG EE TT O (q115 a) = g115 (T := Sm) a O := by kernel_rfl
theorem h116 (a b c) : body PG EE TT O (q116 a b c) = g116 (T := Sm) a b c O := by kernel_rfl
theorem h116b0a (a b c) : body PG EE TT O (q116b0a a b c) = g116b0a (T := Sm) a b c O := by kernel_rfl
theorem h117 (a) : body PG EE TT O (q117 a) = g117 (T := Sm) a O := by kernel_rfl
theorem h117b0a (a b) : body PG EE TT O (q117b0a a b) = g117b0a (T := Sm) a b O := by kernel_rfl
theorem h117b0b (a b) : body PG EE TT O (q117b0b a b) = g117b0b (T := Sm) a b O := by kernel_rfl
theorem h117b2a (a b c) : body PG EE TT O (q117b2a a b c) = g117b2a (T := Sm) a b c O := by kernel_rfl
theorem h117b2b (a b c) : body PG EE TT O (q117b2b a b c) = g117b2b (T := Sm) a b c O := by kernel_rfl
theorem h118 (a) : body PG EE TT O (q118 a) = g118 (T := Sm) a O := by kernel_rfl
theorem h119 (a) : body PG EE TT O (q119 a) = g119 (T := Sm) a O := by kernel_rfl
theorem h120 (a) : body PG EE TT O (q120 a) = g120 (T := Sm) a O := by kernel_rfl
theorem h121 (a) : body PG EE TT O (q121 a) = g121 (T := Sm) a O := by kernel_rfl
theorem h122 (a) : body PG EE TT O (q122 a) = g122 (T := Sm) a O := by kernel_rfl
theorem h142 (a b) : body PG EE TT O (q142 a b) = g142 (T := Sm) a b O := by kernel_rfl
theorem h142b0a (a b c) : body PG EE TT O (q142b0a a b c) = g142b0a (T := Sm) a b c O := by kernel_rfl
theorem h143 (a) : body PG EE TT O (q143 a) = g143 (T := Sm) a O := by kernel_rfl
theorem h144g0 (a) : body PG EE TT O (q144g0 a) = g144g0 (T := Sm) a O := by kernel_rfl
theorem h144g1 (a) : body PG EE TT O (q144g1 a) = g144g1 (T := Sm) a O := by kernel_rfl
theorem h145 (a b) : body PG EE TT O (q145 a b) = g145 (T := Sm) a b O := by kernel_rfl
theorem h145b0a (a b c) : body PG EE TT O (q145b0a a b c) = g145b0a (T := Sm) a b c O := by kernel_rfl
theorem h156 (a b) : body PG EE TT O (q156 a b) = g156 (T := Sm) a b O := by kernel_rfl
theorem h157 (a) : body PG EE TT O (q157 a) = g157 (T := Sm) a O := by kernel_rfl
theorem h165 (a) : body PG EE TT O (q165 a) = g165 (T := Sm) a O := by kernel_rfl
theorem h166 (a) : body PG EE TT O (q166 a) = g166 (T := Sm) a O := by kernel_rfl
theorem h9 (a b c d e f g h) : body PG EE TT O (q9 a b c d e f g h) = g9 (T := Sm) a b c d e f g h O := by kernel_rfl
theorem h25 (a b) : body PG EE TT O (q25 a b) = g25 (T := Sm) a b O := by kernel_rfl
theorem h25b0a (a b c) : body PG EE TT O (q25b0a a b c) = g25b0a (T := Sm) a b c O := by kernel_rfl
theorem h46aw (a b c) : body PG EE TT O (q46aw a b c) = weakM [0, 1, 0] (O ⟨3, [a, b, c]⟩) := by kernel_rfl
theorem h21aw (a b c) : body PG EE TT O (q21aw a b c) = weakM [0, 1, 0] (O ⟨0, [a, b, c]⟩) := by kernel_rfl
theorem h80aw (a b c) : body PG EE TT O (q80aw a b c) = weakM [0, 1] (O ⟨10, [a, b, c]⟩) := by kernel_rfl
theorem h23aw (a b c d e) : body PG EE TT O (q23aw a b c d e) = weakD (O ⟨15, [a, b, c, d, e]⟩) := by kernel_rfl
theorem h52aw (a b c d e) : body PG EE TT O (q52aw a b c d e) = weakD (O ⟨22, [a, b, c, d, e]⟩) := by kernel_rfl
theorem h48w (a) : body PG EE TT O (q48w a) = weakK (O ⟨27, [a]⟩) := by kernel_rfl
end Go.Proofs.YtijcobeebaceoaaGreatDoor
