/- Joined texts. -/
import Derived.Test.YtkfdklocgpgbfaaGz0
import Derived.KernelRfl
import Derived.Test.YtkfdklocgpgbfaaBp
set_option linter.unusedVariables false
set_option linter.unusedSimpArgs false
set_option linter.unusedSectionVars false
namespace Go.Proofs.Ytkfdklocgpgbfaa
open Go.RowKit
set_option maxRecDepth 100000
variable (O : Q → Option Rs)
theorem h9 (a) : body PG EE TT O (q9 a) = g9 (T := Sm) a O := by kernel_rfl
theorem h9b0a (a b c d e) : body PG EE TT O (q9b0a a b c d e) = g9b0a (T := Sm) a b c d e O := by kernel_rfl
theorem h9b2a (a b c d e f g h) : body PG EE TT O (q9b2a a b c d e f g h) = g9b2a (T := Sm) a b c d e f g h O := by kernel_rfl
theorem h9b4a (a b c d e f) : body PG EE TT O (q9b4a a b c d e f) = g9b4a (T := Sm) a b c d e f O := by kernel_rfl
theorem h17a (a b c d) : body PG EE TT O (q17a a b c d) = g17a (T := Sm) a b c d O := by kernel_rfl
theorem h17ab0a (a b c d e f g) : body PG EE TT O (q17ab0a a b c d e f g) = g17ab0a (T := Sm) a b c d e f g O := by kernel_rfl
theorem h17ab0b (a b c d e f g h) : body PG EE TT O (q17ab0b a b c d e f g h) = g17ab0b (T := Sm) a b c d e f g h O := by kernel_rfl
theorem h17ab0c (a b c d e f g h) : body PG EE TT O (q17ab0c a b c d e f g h) = g17ab0c (T := Sm) a b c d e f g h O := by kernel_rfl
theorem h17ab0d (a b c d e f g h i) : body PG EE TT O (q17ab0d a b c d e f g h i) = g17ab0d (T := Sm) a b c d e f g h i O := by kernel_rfl
theorem h18a (a b c d) : body PG EE TT O (q18a a b c d) = g18a (T := Sm) a b c d O := by kernel_rfl
theorem h18ab0a (a b c d) : body PG EE TT O (q18ab0a a b c d) = g18ab0a (T := Sm) a b c d O := by kernel_rfl
theorem h18b (a b c d e) : body PG EE TT O (q18b a b c d e) = g18b (T := Sm) a b c d e O := by kernel_rfl
theorem h18bb0a (a b c d e f) : body PG EE TT O (q18bb0a a b c d e f) = g18bb0a (T := Sm) a b c d e f O := by kernel_rfl
theorem h18bb0b (a b c d e f g) : body PG EE TT O (q18bb0b a b c d e f g) = g18bb0b (T := Sm) a b c d e f g O := by kernel_rfl
theorem h18bb2a (a b c d e f g h) : body PG EE TT O (q18bb2a a b c d e f g h) = g18bb2a (T := Sm) a b c d e f g h O := by kernel_rfl
theorem h18bb2b (a b c d e f g h i) : body PG EE TT O (q18bb2b a b c d e f g h i) = g18bb2b (T := Sm) a b c d e f g h i O := by kernel_rfl
theorem h18c (a b c d e) : body PG EE TT O (q18c a b c d e) = g18c (T := Sm) a b c d e O := by kernel_rfl
theorem h18cb0a (a b c d e) : body PG EE TT O (q18cb0a a b c d e) = g18cb0a (T := Sm) a b c d e O := by kernel_rfl
theorem h18d (a b c d e f) : body PG EE TT O (q18d a b c d e f) = g18d (T := Sm) a b c d e f O := by kernel_rfl
theorem h18db0a (a b c d e f g) : body PG EE TT O (q18db0a a b c d e f g) = g18db0a (T := Sm) a b c d e f g O := by kernel_rfl
theorem h18db0b (a b c d e f g h) : body PG EE TT O (q18db0b a b c d e f g h) = g18db0b (T := Sm) a b c d e f g h O := by kernel_rfl
theorem h18db2a (a b c d e f g h i) : body PG EE TT O (q18db2a a b c d e f g h i) = g18db2a (T := Sm) a b c d e f g h i O := by kernel_rfl
theorem h18db2b (a b c d e f g h i j) : body PG EE TT O (q18db2b a b c d e f g h i j) = g18db2b (T := Sm) a b c d e f g h i j O := by kernel_rfl
theorem h25a (a b c d e f) : body PG EE TT O (q25a a b c d e f) = g25a (T := Sm) a b c d e f O := by kernel_rfl
theorem h25ab0a (a b c d e f g h i j) : body PG EE TT O (q25ab0a a b c d e f g h i j) = g25ab0a (T := Sm) a b c d e f g h i j O := by kernel_rfl
theorem h25ab0b (a b c d e f g h i j k) : body PG EE TT O (q25ab0b a b c d e f g h i j k) = g25ab0b (T := Sm) a b c d e f g h i j k O := by kernel_rfl
theorem h25ab0c (a b c d e f g h i j) : body PG EE TT O (q25ab0c a b c d e f g h i j) = g25ab0c (T := Sm) a b c d e f g h i j O := by kernel_rfl
theorem h25ab0d (a b c d e f g h i j k) : body PG EE TT O (q25ab0d a b c d e f g h i j k) = g25ab0d (T := Sm) a b c d e f g h i j k O := by kernel_rfl
theorem h25ab3a (a b c d e f g h i) : body PG EE TT O (q25ab3a a b c d e f g h i) = g25ab3a (T := Sm) a b c d e f g h i O := by kernel_rfl
theorem h25ab3b (a b c d e f g h i j) : body PG EE TT O (q25ab3b a b c d e f g h i j) = g25ab3b (T := Sm) a b c d e f g h i j O := by kernel_rfl
theorem h25b (a b c d e f g) : body PG EE TT O (q25b a b c d e f g) = g25b (T := Sm) a b c d e f g O := by kernel_rfl
theorem h25bb0a (a b c d e f g h i j k) : body PG EE TT O (q25bb0a a b c d e f g h i j k) = g25bb0a (T := Sm) a b c d e f g h i j k O := by kernel_rfl
theorem h25bb0b (a b c d e f g h i j k) : body PG EE TT O (q25bb0b a b c d e f g h i j k) = g25bb0b (T := Sm) a b c d e f g h i j k O := by kernel_rfl
theorem h25bb0c (a b c d e f g h i j k) : body PG EE TT O (q25bb0c a b c d e f g h i j k) = g25bb0c (T := Sm) a b c d e f g h i j k O := by kernel_rfl
theorem h25bb0d (a b c d e f g h i j k) : body PG EE TT O (q25bb0d a b c d e f g h i j k) = g25bb0d (T := Sm) a b c d e f g h i j k O := by kernel_rfl
theorem h25bb3a (a b c d e f g h i j) : body PG EE TT O (q25bb3a a b c d e f g h i j) = g25bb3a (T := Sm) a b c d e f g h i j O := by kernel_rfl
theorem h25c (a b c d e f g) : body PG EE TT O (q25c a b c d e f g) = g25c (T := Sm) a b c d e f g O := by kernel_rfl
theorem h25cb0a (a b c d e f g h i j) : body PG EE TT O (q25cb0a a b c d e f g h i j) = g25cb0a (T := Sm) a b c d e f g h i j O := by kernel_rfl
theorem h25cb0b (a b c d e f g h i j k) : body PG EE TT O (q25cb0b a b c d e f g h i j k) = g25cb0b (T := Sm) a b c d e f g h i j k O := by kernel_rfl
theorem h25cb0c (a b c d e f g h i j) : body PG EE TT O (q25cb0c a b c d e f g h i j) = g25cb0c (T := Sm) a b c d e f g h i j O := by kernel_rfl
theorem h25cb0d (a b c d e f g h i j k) : body PG EE TT O (q25cb0d a b c d e f g h i j k) = g25cb0d (T := Sm) a b c d e f g h i j k O := by kernel_rfl
theorem h25cb3a (a b c d e f g h i) : body PG EE TT O (q25cb3a a b c d e f g h i) = g25cb3a (T := Sm) a b c d e f g h i O := by kernel_rfl
theorem h25cb3b (a b c d e f g h i j) : body PG EE TT O (q25cb3b a b c d e f g h i j) = g25cb3b (T := Sm) a b c d e f g h i j O := by kernel_rfl
theorem h25d (a b c d e f g h) : body PG EE TT O (q25d a b c d e f g h) = g25d (T := Sm) a b c d e f g h O := by kernel_rfl
theorem h25db0a (a b c d e f g h i j k) : body PG EE TT O (q25db0a a b c d e f g h i j k) = g25db0a (T := Sm) a b c d e f g h i j k O := by kernel_rfl
theorem h25db0b (a b c d e f g h i j k) : body PG EE TT O (q25db0b a b c d e f g h i j k) = g25db0b (T := Sm) a b c d e f g h i j k O := by kernel_rfl
theorem h25db0c (a b c d e f g h i j k) : body PG EE TT O (q25db0c a b c d e f g h i j k) = g25db0c (T := Sm) a b c d e f g h i j k O := by kernel_rfl
theorem h25db0d (a b c d e f g h i j k) : body PG EE TT O (q25db0d a b c d e f g h i j k) = g25db0d (T := Sm) a b c d e f g h i j k O := by kernel_rfl
theorem h25db3a (a b c d e f g h i j) : body PG EE TT O (q25db3a a b c d e f g h i j) = g25db3a (T := Sm) a b c d e f g h i j O := by kernel_rfl
theorem h29a (a b c d e f g) : body PG EE TT O (q29a a b c d e f g) = g29a (T := Sm) a b c d e f g O := by kernel_rfl
theorem h29ab0a (a b c d e f g h i) : body PG EE TT O (q29ab0a a b c d e f g h i) = g29ab0a (T := Sm) a b c d e f g h i O := by kernel_rfl
theorem h29ab2a (a b c d e f g h i j k l m) : body PG EE TT O (q29ab2a a b c d e f g h i j k l m) = g29ab2a (T := Sm) a b c d e f g h i j k l m O := by kernel_rfl
theorem h29b (a b c d e f g h) : body PG EE TT O (q29b a b c d e f g h) = g29b (T := Sm) a b c d e f g h O := by kernel_rfl
theorem h29bb0a (a b c d e f g h i j) : body PG EE TT O (q29bb0a a b c d e f g h i j) = g29bb0a (T := Sm) a b c d e f g h i j O := by kernel_rfl
theorem h29bb2a (a b c d e f g h i j k l m n) : body PG EE TT O (q29bb2a a b c d e f g h i j k l m n) = g29bb2a (T := Sm) a b c d e f g h i j k l m n O := by kernel_rfl
theorem h26a (a b) : body PG EE TT O (q26a a b) = g26a (T := Sm) a b O := by kernel_rfl
theorem h26ab0a (a b c d) : body PG EE TT O (q26ab0a a b c d) = g26ab0a (T := Sm) a b c d O := by kernel_rfl
theorem h28a (a b c) : body PG EE TT O (q28a a b c) = g28a (T := Sm) a b c O := by kernel_rfl
theorem h8 (a) : body PG EE TT O (q8 a) = g8 (T := Sm) a O := by kernel_rfl
theorem h8b0a (a b c d) : body PG EE TT O (q8b0a a b c d) = g8b0a (T := Sm) a b c d O := by kernel_rfl
theorem h10 (a) : body PG EE TT O (q10 a) = g10 (T := Sm) a O := by kernel_rfl
theorem h10b0a (a b) : body PG EE TT O (q10b0a a b) = g10b0a (T := Sm) a b O := by kernel_rfl
theorem h10b2a (a b c) : body PG EE TT O (q10b2a a b c) = g10b2a (T := Sm) a b c O := by kernel_rfl
theorem h10b4a (a b c d) : body PG EE TT O (q10b4a a b c d) = g10b4a (T := Sm) a b c d O := by kernel_rfl
theorem h10b4b (a b c d e) : body PG EE TT O (q10b4b a b c d e) = g10b4b (T := Sm) a b c (.rows d) e O := by kernel_rfl
theorem h10b6a (a b c d e f) : body PG EE TT O (q10b6a a b c d e f) = g10b6a (T := Sm) a b c d e f O := by kernel_rfl
theorem h10b6b (a b c d e f g) : body PG EE TT O (q10b6b a b c d e f g) = g10b6b (T := Sm) a b c d (.rows e) f g O := by kernel_rfl
theorem h10b8a (a b c d e f g) : body PG EE TT O (q10b8a a b c d e f g) = g10b8a (T := Sm) a b c d e f g O := by kernel_rfl
theorem h10b8b (a b c d e f g) : body PG EE TT O (q10b8b a b c d e f g) = g10b8b (T := Sm) a b c d e f g O := by kernel_rfl
theorem h10b8c (a b c d e f g h) : body PG EE TT O (q10b8c a b c d e f g h) = g10b8c (T := Sm) a b c d (.rows e) f g h O := by kernel_rfl
theorem h10b8d (a b c d e f g h) : body PG EE TT O (q10b8d a b c d e f g h) = g10b8d (T := Sm) a b c d (.rows e) f g h O := by kernel_rfl
theorem h10b10a (a b c d e f) : body PG EE TT O (q10b10a a b c d e f) = g10b10a (T := Sm) a b c d e f O := by kernel_rfl
theorem h10b10b (a b c d e f g) : body PG EE TT O (q10b10b a b c d e f g) = g10b10b (T := Sm) a b c d (.rows e) f g O := by kernel_rfl
theorem h10b10c (a b c d e f g) : body PG EE TT O (q10b10c a b c d e f g) = g10b10c (T := Sm) a b c d (.rows e) f g O := by kernel_rfl
theorem h10b10d (a b c d e f g h) : body PG EE TT O (q10b10d a b c d e f g h) = g10b10d (T := Sm) a b c d (.rows e) (.rows f) g h O := by kernel_rfl
theorem h11 (a b) : body PG EE TT O (q11 a b) = g11 (T := Sm) a b O := by kernel_rfl
theorem h11b0a (a b c) : body PG EE TT O (q11b0a a b c) = g11b0a (T := Sm) a b c O := by kernel_rfl
theorem h11b2a (a b c d) : body PG EE TT O (q11b2a a b c d) = g11b2a (T := Sm) a b c d O := by kernel_rfl
theorem h19 (a b c) : body PG EE TT O (q19 a b c) = g19 (T := Sm) a b c O := by kernel_rfl
theorem h6 (a) : body PG EE TT O (q6 a) = g6 (T := Sm) a O := by kernel_rfl
theorem h6b0a (a b c d) : body PG EE TT O (q6b0a a b c d) = g6b0a (T := Sm) a b c d O := by kernel_rfl
theorem h13 (a b c d e f g h i j k l) : body PG EE TT O (q13 a b c d e f g h i j k l) = g13 (T := Sm) a b c d e f g h i j k l O := by kernel_rfl
theorem h20 (a b c d e f g h i j k l) : body PG EE TT O (q20 a b c d e f g h i j k l) = g20 (T := Sm) a b c d e f g h i j k l O := by kernel_rfl
theorem h20b0a (a b c d e f g h i j k l m n) : body PG EE TT O (q20b0a a b c d e f g h i j k l m n) = g20b0a (T := Sm) a b c d e f g h i j k l m n O := by kernel_rfl
theorem h20b2a (a b c d e f g h i j k l m n) : body PG EE TT O (q20b2a a b c d e f g h i j k l m n) = g20b2a (T := Sm) a b c d e f g h i j k l m n O := by kernel_rfl
theorem h20b4a (a b c d e f g h i j k l m n) : body PG EE TT O (q20b4a a b c d e f g h i j k l m n) = g20b4a (T := Sm) a b c d e f g h i j k l m n O := by kernel_rfl
theorem h14 (a) : body PG EE TT O (q14 a) = g14 (T := Sm) a O := by kernel_rfl
theorem h14b0a (a b) : body PG EE TT O (q14b0a a b) = g14b0a (T := Sm) a b O := by kernel_rfl
theorem h14b0b (a b c) : body PG EE TT O (q14b0b a b c) = g14b0b (T := Sm) a b (.rows c) O := by kernel_rfl
theorem h14b2a (a b c d) : body PG EE TT O (q14b2a a b c d) = g14b2a (T := Sm) a b c d O := by kernel_rfl
theorem h14b2b (a b c d e) : body PG EE TT O (q14b2b a b c d e) = g14b2b (T := Sm) a b c (.rows d) e O := by kernel_rfl
theorem h14b2c (a b c d e) : body PG EE TT O (q14b2c a b c d e) = g14b2c (T := Sm) a b c (.rows d) e O := by kernel_rfl
theorem h14b2d (a b c d e f) : body PG EE TT O (q14b2d a b c d e f) = g14b2d (T := Sm) a b c (.rows d) (.rows e) f O := by kernel_rfl
theorem h14b4a (a b c d e) : body PG EE TT O (q14b4a a b c d e) = g14b4a (T := Sm) a b c d e O := by kernel_rfl
theorem h14b4b (a b c d e f) : body PG EE TT O (q14b4b a b c d e f) = g14b4b (T := Sm) a b c d (.rows e) f O := by kernel_rfl
theorem h14b4c (a b c d e f) : body PG EE TT O (q14b4c a b c d e f) = g14b4c (T := Sm) a b c d (.rows e) f O := by kernel_rfl
theorem h14b4d (a b c d e f g) : body PG EE TT O (q14b4d a b c d e f g) = g14b4d (T := Sm) a b c d (.rows e) (.rows f) g O := by kernel_rfl
theorem h14b4e (a b c d e f) : body PG EE TT O (q14b4e a b c d e f) = g14b4e (T := Sm) a b c d (.rows e) f O := by kernel_rfl
theorem h14b4f (a b c d e f g) : body PG EE TT O (q14b4f a b c d e f g) = g14b4f (T := Sm) a b c d (.rows e) (.rows f) g O := by kernel_rfl
theorem h14b4g (a b c d e f) : body PG EE TT O (q14b4g a b c d e f) = g14b4g (T := Sm) a b c d (.rows e) f O := by kernel_rfl
theorem h14b4h (a b c d e f g) : body PG EE TT O (q14b4h a b c d e f g) = g14b4h (T := Sm) a b c d (.rows e) (.rows f) g O := by kernel_rfl
theorem h16 (a) : body PG EE TT O (q16 a) = g16 (T := Sm) a O := by kernel_rfl
theorem h21 (a b c d e f g h i j k) : body PG EE TT O (q21 a b c d e f g h i j k) = g21 (T := Sm) a b c d e f g h i j k O := by kernel_rfl
theorem h21b0a (a b c d e f g h i j k l) : body PG EE TT O (q21b0a a b c d e f g h i j k l) = g21b0a (T := Sm) a b c d e f g h i j k l O := by kernel_rfl
theorem h21b0b (a b c d e f g h i j k l m) : body PG EE TT O (q21b0b a b c d e f g h i j k l m) = g21b0b (T := Sm) a (.rows b) c d e f g h i j k l m O := by kernel_rfl
theorem h21b3a (a b c d e f g h i j k l m) : body PG EE TT O (q21b3a a b c d e f g h i j k l m) = g21b3a (T := Sm) a b c d e f g h i j k l m O := by kernel_rfl
theorem h30 (a) : body PG EE TT O (q30 a) = g30 (T := Sm) a O := by kernel_rfl
theorem h30b0a (a b) : body PG EE TT O (q30b0a a b) = g30b0a (T := Sm) a b O := by kernel_rfl
theorem h30b0b (a b c) : body PG EE TT O (q30b0b a b c) = g30b0b (T := Sm) a b (.rows c) O := by kernel_rfl
theorem h32 (a b) : body PG EE TT O (q32 a b) = g32 (T := Sm) a b O := by kernel_rfl
theorem h32b0a (a b c) : body PG EE TT O (q32b0a a b c) = g32b0a (T := Sm) a b c O := by kernel_rfl
theorem h32b0b (a b c d) : body PG EE TT O (q32b0b a b c d) = g32b0b (T := Sm) a b c (.rows d) O := by kernel_rfl
theorem h33 (a b) : body PG EE TT O (q33 a b) = g33 (T := Sm) a b O := by kernel_rfl
theorem h33b0a (a b c) : body PG EE TT O (q33b0a a b c) = g33b0a (T := Sm) a b (.rows c) O := by kernel_rfl
theorem h33b0b (a b) : body PG EE TT O (q33b0b a b) = g33b0b (T := Sm) a b O := by kernel_rfl
theorem h33b0c (a b c) : body PG EE TT O (q33b0c a b c) = g33b0c (T := Sm) a b (.rows c) O := by kernel_rfl
theorem h33b0d (a b c) : body PG EE TT O (q33b0d a b c) = g33b0d (T := Sm) a b (.rows c) O := by kernel_rfl
theorem h34 (a b c d e) : body PG EE TT O (q34 a b c d e) = g34 (T := Sm) a b c d e O := by kernel_rfl
theorem h34b0a (a b c d e f g) : body PG EE TT O (q34b0a a b c d e f g) = g34b0a (T := Sm) a (.rows b) c d e f g O := by kernel_rfl
theorem h34b0b (a b c d e f) : body PG EE TT O (q34b0b a b c d e f) = g34b0b (T := Sm) a b c d e f O := by kernel_rfl
theorem h34b0c (a b c d e f g) : body PG EE TT O (q34b0c a b c d e f g) = g34b0c (T := Sm) a (.rows b) c d e f g O := by kernel_rfl
theorem h34b0d (a b c d e f g) : body PG EE TT O (q34b0d a b c d e f g) = g34b0d (T := Sm) a (.rows b) c d e f g O := by kernel_rfl
theorem h39 (a b) : body PG EE TT O (q39 a b) = g39 (T := Sm) a b O := by kernel_rfl
theorem h39b0a (a b c) : body PG EE TT O (q39b0a a b c) = g39b0a (T := Sm) a b c O := by kernel_rfl
theorem h31 (a) : body PG EE TT O (q31 a) = g31 (T := Sm) a O := by kernel_rfl
theorem h31b0a (a b) : body PG EE TT O (q31b0a a b) = g31b0a (T := Sm) a b O := by kernel_rfl
theorem h31b0b (a b c) : body PG EE TT O (q31b0b a b c) = g31b0b (T := Sm) a b (.rows c) O := by kernel_rfl
theorem h7 : body PG EE TT O q7 = extK (awkP []) := by kernel_rfl
theorem h12 (a) : body PG EE TT O (q12 a) = extK (rchP [a]) := by kernel_rfl
theorem h15 (a) : body PG EE TT O (q15 a) = extK (ndsP [a]) := by kernel_rfl
theorem h27 (a b c) : body PG EE TT O (q27 a b c) = extK (srtV [a,b,c]) := by kernel_rfl
theorem h14w (a) : body PG EE TT O (q14w a) = weakK (O ⟨86, [a]⟩) := by kernel_rfl
theorem h10w (a) : body PG EE TT O (q10w a) = weakK (O ⟨60, [a]⟩) := by kernel_rfl
theorem h30w (a) : body PG EE TT O (q30w a) = weakK (O ⟨106, [a]⟩) := by kernel_rfl
theorem h31w (a) : body PG EE TT O (q31w a) = weakK (O ⟨124, [a]⟩) := by kernel_rfl
theorem h32w (a b) : body PG EE TT O (q32w a b) = weakK (O ⟨109, [a, b]⟩) := by kernel_rfl
theorem h33w (a b) : body PG EE TT O (q33w a b) = weakK (O ⟨112, [a, b]⟩) := by kernel_rfl
theorem h34w (a b c d e) : body PG EE TT O (q34w a b c d e) = weakK (O ⟨117, [a, b, c, d, e]⟩) := by kernel_rfl
end Go.Proofs.Ytkfdklocgpgbfaa
namespace Go.Proofs.Ytkfdklocgpgbfaa
open Go.RowKit

/-- A row of things of one cell. -/
def r1 {α : Type} (e : α → PV) (l : List α) : PV := .rows (l.map fun x => [e x])
theorem r1_ns {α : Type} {e : α → PV} (he : ∀ x, NS (e x)) (l : List α) : NS (r1 e l) := .rows _ fun c hc p hp => by
  obtain ⟨x, hx, rfl⟩ := List.mem_map.1 hc
  rw [List.mem_singleton.1 hp]; exact he x
section
variable {β : Type} {d : β} {α : Type} {e : α → PV} {t : TypeId} {b : Nat}
theorem lenK_r1 {k : AV → β} (ht : SlT PG t 1 b) (l : List α) : lenK PG d t (.pv (r1 e l)) k = k (.pv (iv l.length)) := by
  rw [r1, lenK_of (fun _ => len_ok ht _) (nsa_lit _), List.length_map]
theorem idxK_r1 {k : AV → β} (ht : SlT PG t 1 b) (he : ∀ x, NS (e x)) {l : List α} {i : Nat} {x : α} (h : l[i]? = some x) : idxK PG d t (.pv (r1 e l)) (.pv (.lit (.int .i64 (i : Int)))) k = k (.cptr [e x]) :=
  idxK_of (fun _ => idx_ok ht (by rw [List.getElem?_map, h]; rfl) rfl) (.cptr _ fun p hp => by rw [List.mem_singleton.1 hp]; exact he x)
theorem appK_r1 {k : PV → β} (ht : SlT PG t 1 b) (he : ∀ x, NS (e x)) (hb : b ≤ 100) {l : List α} {x : α} (h : l.length ≤ 1000000000) : appK PG d t (.pv (r1 e l)) (.pv (.rows [[e x]])) k = k (r1 e (l ++ [x])) := by
  refine appK_of (fun w => ?_) (r1_ns he _)
  have hbb : (l.length + 1) * b ≤ 140737488355328 := Nat.le_trans (Nat.mul_le_mul (show l.length + 1 ≤ 1000000001 by omega) hb) (by decide)
  rw [r1, app_ok ht (es := l.map fun x => [e x]) (es' := [[e x]]) rfl rfl (by simp) (by simp) (by simp; omega) (by simpa using hbb)]
  rw [r1, List.map_append]; exact Iff.rfl
theorem appN_r1 {k : PV → β} (ht : SlT PG t 1 b) (he : ∀ x, NS (e x)) (hb : b ≤ 100) {x : α} : appK PG d t (.pv (.lit (.slice none 0 0))) (.pv (.rows [[e x]])) k = k (r1 e [x]) := by
  refine appK_of (fun w => ?_) (r1_ns he _)
  rw [app_ok ht (es := []) (es' := [[e x]]) rfl rfl (by simp) (by simp) (by simp) (by simp; omega)]
  exact Iff.rfl
theorem setK_r1 {k : PV → β} (he : ∀ x, NS (e x)) {l : List α} {i : Nat} {x : α} (h : i < l.length) : setK d (r1 e l) (.lit (.int .i64 (i : Int))) 0 [e x] k = k (r1 e (l.set i x)) := by
  have hg : (l.map fun x => [e x]).getD i [] = [e l[i]] := by
    rw [List.getD_eq_getElem?_getD, List.getElem?_map, List.getElem?_eq_getElem h]; rfl
  have hs : setAt [e l[i]] 0 [e x] = [e x] := rfl
  have hset : (l.map fun x => [e x]).set i [e x] = (l.set i x).map fun x => [e x] := by rw [List.map_set]
  refine theK_of (and_iff (fun w => ?_) (r1_ns he _))
  constructor
  · rintro ⟨es, n, kd, g1, g2, g3, g4, g5, rfl, _⟩
    cases g1
    cases g2
    rw [Int.toNat_natCast, hg, hs, hset]; rfl
  · rintro rfl
    refine ⟨_, _, _, rfl, rfl, by omega, by rw [Int.toNat_natCast, List.length_map]; exact h, ?_, ?_, nsP_of (r1_ns he _)⟩
    · rw [Int.toNat_natCast, hg]; exact Nat.le_refl 1
    · rw [Int.toNat_natCast, hg, hs, hset]; rfl
theorem slcT_r1 {k : AV → β} (ht : SlT PG t 1 b) (he : ∀ x, NS (e x)) {l : List α} {i : Nat} (h : i ≤ l.length) : slcK PG d t (.pv (r1 e l)) none (some (.pv (.lit (.int .i64 (i : Int))))) k = k (.pv (r1 e (l.take i))) :=
  slcK_of (slc_one (by have := slc_to ht (es := l.map fun x => [e x]) (m := i) (by simpa using h); rwa [← List.map_take] at this)) (.pv _ (r1_ns he _))
theorem slcF_r1 {k : AV → β} (ht : SlT PG t 1 b) (he : ∀ x, NS (e x)) {l : List α} {i : Nat} (h : i ≤ l.length) : slcK PG d t (.pv (r1 e l)) (some (.pv (.lit (.int .i64 (i : Int))))) none k = k (.pv (r1 e (l.drop i))) :=
  slcK_of (slc_one (by have := slc_from ht (es := l.map fun x => [e x]) (l := i) (by simpa using h) (by simp); rwa [← List.map_drop] at this)) (.pv _ (r1_ns he _))
theorem mkK_r1 {k : PV → β} (ht : SlT PG t 1 b) (he : ∀ x, NS (e x)) (hb : b ≤ 100) {z : α} {el : TypeId} (h1 : PG.underlying t = some (.slice el)) (h2 : szA PG el = some 1) (hby : bytesA PG el = some b) (h3 : zeroA PG el = some [.pv (e z)]) {n : Nat} (h : n ≤ 1000000) : mkK PG d t (.pv (iv n)) k = k (r1 e (List.replicate n z)) := by
  have hr : (List.replicate n z).map (fun x => [e x]) = List.replicate n [e z] := List.map_replicate
  refine theK_of (and_iff (fun w => ?_) (r1_ns he _))
  constructor
  · rintro ⟨e', sz, by_, zc, z', m, g1, g2, g3, g4, g5, g6, g7, g8, g9, g10, rfl, _⟩
    rw [h1] at g1
    cases g1
    rw [h3] at g4
    cases g4
    have hz : z' = [e z] := by
      have : toPVs [AV.pv (e z)] = some [e z] := rfl
      rw [this] at g5; exact (Option.some.inj g5).symm
    have hm : m = n := by
      have : intV (.pv (iv n)) = some (n : Int) := rfl
      rw [this] at g8
      have := Option.some.inj g8
      omega
    rw [hz, hm, r1, hr]
  · rintro rfl
    refine ⟨el, 1, b, [.pv (e z)], [e z], n, h1, h2, hby, h3, rfl, Nat.one_pos, rfl, rfl, ?_, ?_, by rw [r1, hr], nsP_of (r1_ns he _)⟩
    · exact Nat.le_trans h (by decide)
    · exact Nat.le_trans (Nat.mul_le_mul h hb) (by decide)
end
def eN (n : Nat) : PV := iv n
def eO : Option Nat → PV
  | none => iv (-1)
  | some j => iv j
def eB (b : Bool) : PV := bv b
theorem eN_ns (x : Nat) : NS (eN x) := .lit _
theorem eO_ns (x : Option Nat) : NS (eO x) := by cases x <;> exact .lit _
theorem eB_ns (x : Bool) : NS (eB x) := .lit _
def nvs (l : List Nat) : PV := r1 eN l
def ovs (l : List (Option Nat)) : PV := r1 eO l
def bvr (l : List Bool) : PV := r1 eB l
@[simp] theorem ns_nvs (l : List Nat) : NS (nvs l) := r1_ns eN_ns l
@[simp] theorem ns_ovs (l : List (Option Nat)) : NS (ovs l) := r1_ns eO_ns l
@[simp] theorem ns_bvr (l : List Bool) : NS (bvr l) := r1_ns eB_ns l
def nss (l : List (List Nat)) : PV := r1 nvs l
def bsr (l : List (List Bool)) : PV := r1 bvr l
@[simp] theorem ns_nss (l : List (List Nat)) : NS (nss l) := r1_ns ns_nvs l
@[simp] theorem ns_bsr (l : List (List Bool)) : NS (bsr l) := r1_ns ns_bvr l
/-- Rows of numbers of any sign. -/
def zvs (l : List Int) : PV := .rows (ivs l)
def zss (l : List (List Int)) : PV := .rows (iss l)
theorem zvs_eq (l : List Int) : zvs l = r1 iv l := rfl
theorem zss_eq (l : List (List Int)) : zss l = r1 zvs l := rfl
theorem iv_ns (x : Int) : NS (iv x) := .lit _
@[simp] theorem ns_zvs (l : List Int) : NS (zvs l) := r1_ns iv_ns l
@[simp] theorem ns_zss (l : List (List Int)) : NS (zss l) := r1_ns ns_zvs l
theorem sl_i : SlT PG 31 1 8 := SlT.of (by kernel_rfl)
theorem sl_ii : SlT PG 22 1 24 := SlT.of (by kernel_rfl)
theorem sl_b : SlT PG 34 1 1 := SlT.of (by kernel_rfl)
theorem sl_bb : SlT PG 32 1 24 := SlT.of (by kernel_rfl)
section
variable {β : Type} {d : β} {k : AV → β} {kp : PV → β}
@[simp] theorem len_nvs (l : List Nat) : lenK PG d 31 (.pv (nvs l)) k = k (.pv (iv l.length)) := lenK_r1 sl_i l
@[simp] theorem len_ovs (l : List (Option Nat)) : lenK PG d 31 (.pv (ovs l)) k = k (.pv (iv l.length)) := lenK_r1 sl_i l
@[simp] theorem len_zvs (l : List Int) : lenK PG d 31 (.pv (zvs l)) k = k (.pv (iv l.length)) := lenK_r1 sl_i l
@[simp] theorem len_nss (l : List (List Nat)) : lenK PG d 22 (.pv (nss l)) k = k (.pv (iv l.length)) := lenK_r1 sl_ii l
@[simp] theorem len_zss (l : List (List Int)) : lenK PG d 22 (.pv (zss l)) k = k (.pv (iv l.length)) := lenK_r1 sl_ii l
@[simp] theorem len_bvr (l : List Bool) : lenK PG d 34 (.pv (bvr l)) k = k (.pv (iv l.length)) := lenK_r1 sl_b l
@[simp] theorem len_bsr (l : List (List Bool)) : lenK PG d 32 (.pv (bsr l)) k = k (.pv (iv l.length)) := lenK_r1 sl_bb l
theorem idx_nvs {l : List Nat} {i x : Nat} (h : l[i]? = some x) : idxK PG d 31 (.pv (nvs l)) (.pv (.lit (.int .i64 (i : Int)))) k = k (.cptr [iv x]) := idxK_r1 sl_i eN_ns h
theorem idx_ovs {l : List (Option Nat)} {i : Nat} {x : Option Nat} (h : l[i]? = some x) : idxK PG d 31 (.pv (ovs l)) (.pv (.lit (.int .i64 (i : Int)))) k = k (.cptr [eO x]) := idxK_r1 sl_i eO_ns h
theorem idx_zvs {l : List Int} {i : Nat} {x : Int} (h : l[i]? = some x) : idxK PG d 31 (.pv (zvs l)) (.pv (.lit (.int .i64 (i : Int)))) k = k (.cptr [iv x]) := idxK_r1 sl_i iv_ns h
theorem idx_nss {l : List (List Nat)} {i : Nat} {x : List Nat} (h : l[i]? = some x) : idxK PG d 22 (.pv (nss l)) (.pv (.lit (.int .i64 (i : Int)))) k = k (.cptr [nvs x]) := idxK_r1 sl_ii ns_nvs h
theorem idx_zss {l : List (List Int)} {i : Nat} {x : List Int} (h : l[i]? = some x) : idxK PG d 22 (.pv (zss l)) (.pv (.lit (.int .i64 (i : Int)))) k = k (.cptr [zvs x]) := idxK_r1 sl_ii ns_zvs h
theorem idx_bvr {l : List Bool} {i : Nat} {x : Bool} (h : l[i]? = some x) : idxK PG d 34 (.pv (bvr l)) (.pv (.lit (.int .i64 (i : Int)))) k = k (.cptr [bv x]) := idxK_r1 sl_b eB_ns h
theorem idx_bsr {l : List (List Bool)} {i : Nat} {x : List Bool} (h : l[i]? = some x) : idxK PG d 32 (.pv (bsr l)) (.pv (.lit (.int .i64 (i : Int)))) k = k (.cptr [bvr x]) := idxK_r1 sl_bb ns_bvr h
theorem set_nvs {l : List Nat} {i x : Nat} (h : i < l.length) : setK d (nvs l) (.lit (.int .i64 (i : Int))) 0 [.lit (.int .i64 (x : Int))] kp = kp (nvs (l.set i x)) := setK_r1 eN_ns h
theorem set_ovs {l : List (Option Nat)} {i x : Nat} (h : i < l.length) : setK d (ovs l) (.lit (.int .i64 (i : Int))) 0 [.lit (.int .i64 (x : Int))] kp = kp (ovs (l.set i (some x))) := setK_r1 (x := some x) eO_ns h
theorem set_bvr {l : List Bool} {i : Nat} {x : Bool} (h : i < l.length) : setK d (bvr l) (.lit (.int .i64 (i : Int))) 0 [.lit (.bool x)] kp = kp (bvr (l.set i x)) := setK_r1 eB_ns h
theorem app_nvs {l : List Nat} {x : Nat} (h : l.length ≤ 1000000000) : appK PG d 31 (.pv (nvs l)) (.pv (.rows [[.lit (.int .i64 (x : Int))]])) kp = kp (nvs (l ++ [x])) := appK_r1 sl_i eN_ns (by decide) h
theorem apn_nvs {x : Nat} : appK PG d 31 (.pv (.lit (.slice none 0 0))) (.pv (.rows [[.lit (.int .i64 (x : Int))]])) kp = kp (nvs [x]) := appN_r1 sl_i eN_ns (by decide)
theorem app_nss {l : List (List Nat)} {x : List Nat} (h : l.length ≤ 1000000000) : appK PG d 22 (.pv (nss l)) (.pv (.rows [[nvs x]])) kp = kp (nss (l ++ [x])) := appK_r1 sl_ii ns_nvs (by decide) h
theorem apn_nss {x : List Nat} : appK PG d 22 (.pv (.lit (.slice none 0 0))) (.pv (.rows [[nvs x]])) kp = kp (nss [x]) := appN_r1 sl_ii ns_nvs (by decide)
theorem take_nvs {l : List Nat} {i : Nat} (h : i ≤ l.length) : slcK PG d 31 (.pv (nvs l)) none (some (.pv (.lit (.int .i64 (i : Int))))) k = k (.pv (nvs (l.take i))) := slcT_r1 sl_i eN_ns h
theorem drop_nvs {l : List Nat} {i : Nat} (h : i ≤ l.length) : slcK PG d 31 (.pv (nvs l)) (some (.pv (.lit (.int .i64 (i : Int))))) none k = k (.pv (nvs (l.drop i))) := slcF_r1 sl_i eN_ns h
theorem take_nss {l : List (List Nat)} {i : Nat} (h : i ≤ l.length) : slcK PG d 22 (.pv (nss l)) none (some (.pv (.lit (.int .i64 (i : Int))))) k = k (.pv (nss (l.take i))) := slcT_r1 sl_ii ns_nvs h
theorem mk_nvs {n : Nat} (h : n ≤ 1000000) : mkK PG d 31 (.pv (iv n)) kp = kp (nvs (List.replicate n 0)) := mkK_r1 (z := 0) sl_i eN_ns (by decide) (el := 3) (by kernel_rfl) (by kernel_rfl) (by kernel_rfl) (by kernel_rfl) h
theorem mk_bvr {n : Nat} (h : n ≤ 1000000) : mkK PG d 34 (.pv (iv n)) kp = kp (bvr (List.replicate n false)) := mkK_r1 (z := false) sl_b eB_ns (by decide) (el := 4) (by kernel_rfl) (by kernel_rfl) (by kernel_rfl) (by kernel_rfl) h
end
/-- Numbers that are not below 0, as numbers of any sign. -/
def zof (l : List Nat) : List Int := l.map fun (n : Nat) => (n : Int)
theorem zvs_zof (l : List Nat) : zvs (zof l) = nvs l := by
  unfold zvs ivs zof nvs r1
  rw [List.map_map]; rfl
theorem zss_zof (l : List (List Nat)) : zss (l.map zof) = nss l := by
  unfold zss iss nss r1
  rw [List.map_map]
  congr 1
  apply List.map_congr_left
  intro r _
  show [PV.rows (ivs (zof r))] = _
  rw [show PV.rows (ivs (zof r)) = nvs r from zvs_zof r]

theorem wr {n : Nat} (h : n < 9000000000000000000) : IntKind.i64.wrap ((n : Int) + 1) = ((n + 1 : Nat) : Int) := by rw [IntKind.wrap_i64]; omega
theorem c1 (n : Nat) : ((n + 1 : Nat) : Int) = (n : Int) + 1 := by omega
/-! The place of a thing in a row. -/
theorem index_l (l : List Nat) (i : Nat) (hb : l.length ≤ 1000000000) : ∀ (m : List Nat) (j : Nat), l.drop j = m → i ∈ m →
    ev (q26ab0a (iv (j : Int)) (iv l.length) (iv i) (nvs l)) = some (0, [nvs l, iv ((j + m.idxOf i : Nat) : Int)])
  | [], j, hd, h => by cases h
  | x :: m, j, hd, h => by
    have hx : l[j]? = some x := by have := congrArg List.head? hd; rwa [List.head?_drop] at this
    have hi : (j : Int) < l.length := by have := (List.getElem?_eq_some_iff.1 hx).1; omega
    have hd' : l.drop (j + 1) = m := by rw [← List.drop_drop, hd]; rfl
    refine Evl.of ?_
    rw [h26ab0a, g26ab0a]
    by_cases hxi : i = x
    · subst hxi
      simp [hi, idx_nvs hx]
    · have hne : ¬ (i : Int) = x := by omega
      have hm : i ∈ m := (List.mem_cons.1 h).resolve_left hxi
      have ih := index_l l i hb m (j + 1) hd' hm
      have e0 := wr (n := j) (by omega)
      have e2 : (x :: m).idxOf i = m.idxOf i + 1 := by
        have h3 : (x == i) = false := by simpa using fun e => hxi e.symm
        simp [List.idxOf_cons, h3]
      rw [c1] at ih
      rw [show j + 1 + m.idxOf i = j + (x :: m).idxOf i by omega] at ih
      simp only [m_L3, m_X, m_E3, m_A3, m_Y, m_w1, m_O0, m_O, idx_nvs hx, xV, bV, bA, bI, cptrK_c, cC_cons, cN_nil, binK_lss, binK_eql, binK_add, pvK_pv, hi, hne, e0, c1, ih, decide_true, decide_false, isK_t, isK_f, bK_true, bK_false, alt_fail, alt_fail', alt_passK, passK_some]
theorem index_ev {l : List Nat} {i : Nat} (hb : l.length ≤ 1000000000) (h : i ∈ l) : ev (q26a (iv i) (nvs l)) = some (0, [nvs l, iv (l.idxOf i : Nat)]) := Evl.of (by
  have h1 := index_l l i hb l 0 rfl h
  rw [Nat.zero_add] at h1
  rw [h26a, g26a]
  simp at h1
  simp [h1])
theorem values_ev (lo q p : PV) : ev (q28a lo q p) = some (0, [p, lo, q]) := Evl.of (by
  rw [h28a, g28a]; simp)
theorem sortZ_zof (l : List Nat) : sortZ (zof l) = zof (sortN l) := by
  unfold sortZ zof sortN
  rw [List.map_mergeSort (f := fun (n : Nat) => (n : Int))]
  intro a _ b _
  simp
theorem sorted_ev {l : List Nat} {a : Nat} (h : l.length ≤ 1000000) (ha : a ≤ l.length) : ev (q27 (iv a) (nvs (l.drop a)) (nvs l)) = some (0, [iv a, nvs (l.drop a), nvs l, nvs (sortN (l.drop a))]) := Evl.of (by
  rw [h27]
  have h1 : srtV [iv a, nvs (l.drop a), nvs l] = some (0, [iv a, nvs (l.drop a), nvs l, nvs (sortN (l.drop a))]) := by
    have e1 : nvs l = .rows (ivs (zof l)) := (zvs_zof l).symm
    have e2 : nvs (sortN (l.drop a)) = .rows (ivs (sortZ (zof (l.drop a)))) := by rw [sortZ_zof]; exact (zvs_zof _).symm
    have e3 : nvs (l.drop a) = .rows ((l.drop a).map fun x => [eN x]) := rfl
    have e4 : ((zof l).drop ((a : Int).toNat)).take ((l.drop a).map fun x => [eN x]).length = zof (l.drop a) := by
      rw [Int.toNat_natCast, List.length_map]
      unfold zof
      rw [← List.map_drop, List.take_of_length_le (by simp)]
    rw [e2, e1, e3, srtV, intsOf_ivs]
    simp only
    rw [e4, if_pos ⟨by omega, by simpa [zof] using h, by simp [zof]; omega⟩]
  rw [h1]; rfl)
/-! A group is marked. -/
theorem mark_a (N : List (List Nat)) (g : List Nat) (hb : g.length ≤ 1000000000) (met low : PV) (stk : PV) (nn : Nat) : ∀ (m : List Nat) (j : Nat) (o : List (Option Nat)), o.length = nn → (∀ k ∈ m, k < nn) → g.drop j = m →
    ev (q25ab3a (iv (j : Int)) (iv g.length) (nvs g) (nvs g) (nss N) met low (ovs o) stk) = some (0, [nss N, nS, met, low, ovs (setAll m 0 o), stk, nvs g])
  | [], j, o, ho, hm, hd => by
    have hi : ¬ (j : Int) < g.length := by have := congrArg List.length hd; simp at this; omega
    refine Evl.of ?_
    rw [h25ab3a, g25ab3a]
    simp [hi, setAll]
  | k :: m, j, o, ho, hm, hd => by
    have hx : g[j]? = some k := by have := congrArg List.head? hd; rwa [List.head?_drop] at this
    have hi : (j : Int) < g.length := by have := (List.getElem?_eq_some_iff.1 hx).1; omega
    have hd' : g.drop (j + 1) = m := by rw [← List.drop_drop, hd]; rfl
    have hk : k < o.length := by rw [ho]; exact hm k (List.mem_cons_self ..)
    have ih := mark_a N g hb met low stk nn m (j + 1) (o.set k (some 0)) (by simp [ho]) (fun k h => hm k (List.mem_cons_of_mem _ h)) hd'
    have e0 := wr (n := j) (by omega)
    have hs := fun kp => set_ovs (d := Res.fail) (x := 0) (kp := kp) hk
    have ho2 : ∃ y, o[k]? = some y := ⟨_, List.getElem?_eq_getElem hk⟩
    obtain ⟨y, hy⟩ := ho2
    simp only [Int.natCast_zero, Int.ofNat_zero] at hs
    rw [c1] at ih e0
    refine Evl.of ?_
    rw [h25ab3a, g25ab3a]
    simp [hi, idx_nvs hx, idx_ovs hy, hs, e0, ih, setAll]
theorem mark_b (N : List (List Nat)) (g : List Nat) (hb : g.length ≤ 1000000000) (met low : PV) (stk : PV) (grp : List (List Nat)) (nn : Nat) : ∀ (m : List Nat) (j : Nat) (o : List (Option Nat)), o.length = nn → (∀ k ∈ m, k < nn) → g.drop j = m →
    ev (q25ab3b (iv (j : Int)) (iv g.length) (nvs g) (nvs g) (nss N) met low (ovs o) stk (nss grp)) = some (0, [nss N, met, low, ovs (setAll m grp.length o), stk, nss grp, nvs g])
  | [], j, o, ho, hm, hd => by
    have hi : ¬ (j : Int) < g.length := by have := congrArg List.length hd; simp at this; omega
    refine Evl.of ?_
    rw [h25ab3b, g25ab3b]
    simp [hi, setAll]
  | k :: m, j, o, ho, hm, hd => by
    have hx : g[j]? = some k := by have := congrArg List.head? hd; rwa [List.head?_drop] at this
    have hi : (j : Int) < g.length := by have := (List.getElem?_eq_some_iff.1 hx).1; omega
    have hd' : g.drop (j + 1) = m := by rw [← List.drop_drop, hd]; rfl
    have hk : k < o.length := by rw [ho]; exact hm k (List.mem_cons_self ..)
    have ih := mark_b N g hb met low stk grp nn m (j + 1) (o.set k (some grp.length)) (by simp [ho]) (fun k h => hm k (List.mem_cons_of_mem _ h)) hd'
    have e0 := wr (n := j) (by omega)
    have hs := fun kp => set_ovs (d := Res.fail) (x := grp.length) (kp := kp) hk
    have ho2 : ∃ y, o[k]? = some y := ⟨_, List.getElem?_eq_getElem hk⟩
    obtain ⟨y, hy⟩ := ho2
    rw [c1] at ih e0
    refine Evl.of ?_
    rw [h25ab3b, g25ab3b]
    simp [hi, idx_nvs hx, idx_ovs hy, hs, e0, ih, setAll]

def ansC (N : List (List Nat)) (s' : St) : Rs := if s'.grp = [] then (0, [iv s'.n, nss N, nS, nvs s'.met, nvs s'.low, ovs s'.of, nvs s'.stk]) else (1, [iv s'.n, nss N, nvs s'.met, nvs s'.low, ovs s'.of, nvs s'.stk, nss s'.grp])
def ansD (N : List (List Nat)) (s s' : St) : Rs := if s'.grp = s.grp then (0, [iv s'.n, nss N, nvs s'.met, nvs s'.low, ovs s'.of, nss s'.grp, nvs s'.stk]) else (1, [iv s'.n, nss N, nvs s'.met, nvs s'.low, ovs s'.of, nvs s'.stk, nss s'.grp])
structure VisOk (N : List (List Nat)) (vis : Nat → St → Option St) : Prop where
  keep : ∀ k s s', k < N.length → WF N s → mt s k = 0 → vis k s = some s' → WF N s' ∧ Keep s s' ∧ s.n < s'.n
  c : ∀ k s s', k < N.length → WF N s → mt s k = 0 → vis k s = some s' → s.grp = [] → ev (q25c (iv k) (iv s.n) (nss N) (nvs s.met) (nvs s.low) (ovs s.of) (nvs s.stk)) = some (ansC N s')
  d : ∀ k s s', k < N.length → WF N s → mt s k = 0 → vis k s = some s' → s.grp ≠ [] → ev (q25d (iv k) (iv s.n) (nss N) (nvs s.met) (nvs s.low) (ovs s.of) (nvs s.stk) (nss s.grp)) = some (ansD N s s')
/-- What a row holds at a place. -/
theorem at_of {l : List Nat} {x m : Nat} (h : l.getD x 0 = m) (hx : x < l.length) : l[x]? = some m := by
  rw [List.getElem?_eq_getElem hx, ← h, List.getD_eq_getElem?_getD, List.getElem?_eq_getElem hx]; rfl
theorem at_ofO {l : List (Option Nat)} {x : Nat} {m : Option Nat} (h : l.getD x none = m) (hx : x < l.length) : l[x]? = some m := by
  rw [List.getElem?_eq_getElem hx, ← h, List.getD_eq_getElem?_getD, List.getElem?_eq_getElem hx]; rfl
theorem mn (a b : Nat) : min (a : Int) (b : Int) = ((min a b : Nat) : Int) := by omega
theorem mx_n {k : AV → Res} (a b : Nat) : mxK PG .fail true (.pv (.lit (.int .i64 (a : Int)))) (.pv (.lit (.int .i64 (b : Int)))) k = k (.pv (.lit (.int .i64 ((min a b : Nat) : Int)))) := by rw [mxK_min, mn]
theorem grp_ne {s s' : St} (h : Keep s s') (hg : s.grp ≠ []) : s'.grp ≠ [] := fun e => hg (by obtain ⟨r, hr⟩ := h.kg; rw [e] at hr; exact (List.append_eq_nil_iff.1 hr).1)
theorem grp_ne2 {s s1 s' : St} (h : Keep s s1) (k : Keep s1 s') (hg : s1.grp ≠ s.grp) : s'.grp ≠ s.grp := fun e => hg (by
  obtain ⟨r, hr⟩ := h.kg
  obtain ⟨t, ht⟩ := k.kg
  rw [e, ← hr, List.append_assoc] at ht
  have h1 := congrArg List.length ht
  simp only [List.length_append] at h1
  have : r = [] := List.eq_nil_of_length_eq_zero (by omega)
  rw [← hr, this, List.append_nil])
section
variable {N : List (List Nat)} {vis : Nat → St → Option St} {row : List Nat}

def ans27 (N : List (List Nat)) (i : Nat) (s s' : St) : Rs := (3, [nss N, nvs s'.met, nvs s'.low, ovs s'.of, iv s'.n, nvs s'.stk, nss s'.grp, iv i])
theorem L27 (V : VisOk N vis) (hr : row.length ≤ 1000000000) {i : Nat} (hi : i < N.length) : ∀ (ks : List Nat) (j : Nat) (s s' : St), row.drop j = ks → (∀ k ∈ ks, k < N.length) → WF N s → s.grp ≠ [] → edges vis i ks s = some s' →
    ev (q25ab0d (iv (j : Int)) (iv row.length) (nvs row) (iv i) (nss N) (nvs s.met) (nvs s.low) (ovs s.of) (iv s.n) (nvs s.stk) (nss s.grp)) = some (ans27 N i s s')
  | [], j, s, s', hd, hks, hw, hg, h => by
    have hj : ¬ (j : Int) < row.length := by have := congrArg List.length hd; simp at this; omega
    cases h
    refine Evl.of ?_
    rw [h25ab0d, g25ab0d]
    simp [hj, ans27, hg]
  | k :: ks, j, s, s', hd, hks, hw, hg, h => by
    have hx : row[j]? = some k := by have := congrArg List.head? hd; rwa [List.head?_drop] at this
    have hj : (j : Int) < row.length := by have := (List.getElem?_eq_some_iff.1 hx).1; omega
    have hd' : row.drop (j + 1) = ks := by rw [← List.drop_drop, hd]; rfl
    have hk := hks k (List.mem_cons_self ..)
    have hks' : ∀ k ∈ ks, k < N.length := fun k h => hks k (List.mem_cons_of_mem _ h)
    have e0 := wr (n := j) (by omega)
    rw [edges] at h
    refine Evl.of ?_
    rw [h25ab0d, g25ab0d]
    by_cases h0 : mt s k = 0
    · rw [if_pos h0] at h
      have hm : s.met[k]? = some 0 := at_of h0 (by rw [hw.m]; exact hk)
      split at h
      · cases h
      · rename_i s1 h1
        obtain ⟨hw1, hk1, hn1⟩ := V.keep k s s1 hk hw h0 h1
        have hc := V.d k s s1 hk hw h0 h1 hg
        obtain ⟨hw2, hk2⟩ := edges_keep V.keep ks _ s' hks' (hw1.low i _) h
        have hk2' : Keep s1 s' := (Keep.low i _ s1).trans hk2
        have hli : s1.low[i]? = some (lw s1 i) := at_of rfl (by rw [hw1.l]; exact hi)
        have hlk : s1.low[k]? = some (lw s1 k) := at_of rfl (by rw [hw1.l]; exact hk)
        have hset := fun kp => set_nvs (d := Res.fail) (kp := kp) (l := s1.low) (x := min (lw s1 i) (lw s1 k)) (i := i) (by rw [hw1.l]; exact hi)
        have hn' : ¬ s'.n = s.n := by have := hk2'.kn; omega
        by_cases hf : s1.grp = s.grp
        · have ih := L27 V hr hi ks (j + 1) (setLow i (min (lw s1 i) (lw s1 k)) s1) s' hd' hks' (hw1.low i _) (grp_ne hk1 hg : _) h
          simp only [setLow, c1] at ih
          rw [ansD, if_pos hf] at hc
          have hgn : True := trivial
          have ea : ans27 N i { s1 with low := s1.low.set i (min (lw s1 i) (lw s1 k)) } s' = ans27 N i s s' := by
            simp [ans27, ans27, hn', hgn, hf]
          rw [ea] at ih
          rw [hf] at hc ih
          simp [-mxK_min, hj, idx_nvs hx, idx_nvs hm, hc, idx_nvs hli, idx_nvs hlk, mx_n, hset, e0, c1, ih]
        · have ih := L27 V hr hi ks (j + 1) (setLow i (min (lw s1 i) (lw s1 k)) s1) s' hd' hks' (hw1.low i _) (grp_ne hk1 hg : _) h
          simp only [setLow, c1] at ih
          rw [ansD, if_neg hf] at hc
          have hgn : s'.grp ≠ s.grp := grp_ne2 hk1 hk2' hf
          have ea : ans27 N i { s1 with low := s1.low.set i (min (lw s1 i) (lw s1 k)) } s' = ans27 N i s s' := by
            simp [ans27, ans27, hn', hgn]
          rw [ea] at ih
          simp [-mxK_min, hj, idx_nvs hx, idx_nvs hm, hc, idx_nvs hli, idx_nvs hlk, mx_n, hset, e0, c1, ih]
    · rw [if_neg h0] at h
      have hm : s.met[k]? = some (mt s k) := at_of rfl (by rw [hw.m]; exact hk)
      have hli : s.low[i]? = some (lw s i) := at_of rfl (by rw [hw.l]; exact hi)
      have ho : s.of[k]? = some (gof s k) := at_ofO rfl (by rw [hw.o]; exact hk)
      have hset := fun kp => set_nvs (d := Res.fail) (kp := kp) (l := s.low) (x := min (lw s i) (mt s k)) (i := i) (by rw [hw.l]; exact hi)
      by_cases ho0 : gof s k = none
      · rw [if_pos ho0] at h
        rw [ho0] at ho
        have ih := L27 V hr hi ks (j + 1) (setLow i (min (lw s i) (mt s k)) s) s' hd' hks' (hw.low i _) hg h
        simp only [setLow, c1] at ih
        have ea : ans27 N i { s with low := s.low.set i (min (lw s i) (mt s k)) } s' = ans27 N i s s' := rfl
        rw [ea] at ih
        simp [-mxK_min, hj, idx_nvs hx, idx_nvs hm, h0, idx_ovs ho, eO, idx_nvs hli, mx_n, hset, e0, c1, ih]
      · rw [if_neg ho0] at h
        obtain ⟨g, hgo⟩ := Option.ne_none_iff_exists'.1 ho0
        rw [hgo] at ho
        have hneg : ¬ (g : Int) < 0 := by omega
        have ih := L27 V hr hi ks (j + 1) s s' hd' hks' hw hg h
        simp only [c1] at ih
        simp [-mxK_min, hj, idx_nvs hx, idx_nvs hm, h0, idx_ovs ho, eO, hneg, e0, c1, ih]
def ans26 (N : List (List Nat)) (i : Nat) (s s' : St) : Rs := if s'.grp = [] then (2, [nss N, nS, nvs s'.met, nvs s'.low, ovs s'.of, iv s'.n, nvs s'.stk, iv i]) else (3, [nss N, nvs s'.met, nvs s'.low, ovs s'.of, iv s'.n, nvs s'.stk, nss s'.grp, iv i])
theorem L26 (V : VisOk N vis) (hr : row.length ≤ 1000000000) {i : Nat} (hi : i < N.length) : ∀ (ks : List Nat) (j : Nat) (s s' : St), row.drop j = ks → (∀ k ∈ ks, k < N.length) → WF N s → s.grp = [] → edges vis i ks s = some s' →
    ev (q25ab0c (iv (j : Int)) (iv row.length) (nvs row) (iv i) (nss N) (nvs s.met) (nvs s.low) (ovs s.of) (iv s.n) (nvs s.stk)) = some (ans26 N i s s')
  | [], j, s, s', hd, hks, hw, hg, h => by
    have hj : ¬ (j : Int) < row.length := by have := congrArg List.length hd; simp at this; omega
    cases h
    refine Evl.of ?_
    rw [h25ab0c, g25ab0c]
    simp [hj, ans26, hg]
  | k :: ks, j, s, s', hd, hks, hw, hg, h => by
    have hx : row[j]? = some k := by have := congrArg List.head? hd; rwa [List.head?_drop] at this
    have hj : (j : Int) < row.length := by have := (List.getElem?_eq_some_iff.1 hx).1; omega
    have hd' : row.drop (j + 1) = ks := by rw [← List.drop_drop, hd]; rfl
    have hk := hks k (List.mem_cons_self ..)
    have hks' : ∀ k ∈ ks, k < N.length := fun k h => hks k (List.mem_cons_of_mem _ h)
    have e0 := wr (n := j) (by omega)
    rw [edges] at h
    refine Evl.of ?_
    rw [h25ab0c, g25ab0c]
    by_cases h0 : mt s k = 0
    · rw [if_pos h0] at h
      have hm : s.met[k]? = some 0 := at_of h0 (by rw [hw.m]; exact hk)
      split at h
      · cases h
      · rename_i s1 h1
        obtain ⟨hw1, hk1, hn1⟩ := V.keep k s s1 hk hw h0 h1
        have hc := V.c k s s1 hk hw h0 h1 hg
        obtain ⟨hw2, hk2⟩ := edges_keep V.keep ks _ s' hks' (hw1.low i _) h
        have hk2' : Keep s1 s' := (Keep.low i _ s1).trans hk2
        have hli : s1.low[i]? = some (lw s1 i) := at_of rfl (by rw [hw1.l]; exact hi)
        have hlk : s1.low[k]? = some (lw s1 k) := at_of rfl (by rw [hw1.l]; exact hk)
        have hset := fun kp => set_nvs (d := Res.fail) (kp := kp) (l := s1.low) (x := min (lw s1 i) (lw s1 k)) (i := i) (by rw [hw1.l]; exact hi)
        have hn' : ¬ s'.n = s.n := by have := hk2'.kn; omega
        by_cases hf : s1.grp = []
        · have ih := L26 V hr hi ks (j + 1) (setLow i (min (lw s1 i) (lw s1 k)) s1) s' hd' hks' (hw1.low i _) (hf : _) h
          simp only [setLow, c1] at ih
          rw [ansC, if_pos hf] at hc
          have hgn : True := trivial
          have ea : ans26 N i { s1 with low := s1.low.set i (min (lw s1 i) (lw s1 k)) } s' = ans26 N i s s' := by
            simp [ans26, ans26, hn', hgn]
          rw [ea] at ih
          simp [-mxK_min, hj, idx_nvs hx, idx_nvs hm, hc, idx_nvs hli, idx_nvs hlk, mx_n, hset, e0, c1, ih]
        · have ih := L27 V hr hi ks (j + 1) (setLow i (min (lw s1 i) (lw s1 k)) s1) s' hd' hks' (hw1.low i _) (hf : _) h
          simp only [setLow, c1] at ih
          rw [ansC, if_neg hf] at hc
          have hgn : s'.grp ≠ [] := grp_ne hk2' hf
          have ea : ans27 N i { s1 with low := s1.low.set i (min (lw s1 i) (lw s1 k)) } s' = ans26 N i s s' := by
            simp [ans27, ans26, hn', hgn]
          rw [ea] at ih
          simp [-mxK_min, hj, idx_nvs hx, idx_nvs hm, hc, idx_nvs hli, idx_nvs hlk, mx_n, hset, e0, c1, ih]
    · rw [if_neg h0] at h
      have hm : s.met[k]? = some (mt s k) := at_of rfl (by rw [hw.m]; exact hk)
      have hli : s.low[i]? = some (lw s i) := at_of rfl (by rw [hw.l]; exact hi)
      have ho : s.of[k]? = some (gof s k) := at_ofO rfl (by rw [hw.o]; exact hk)
      have hset := fun kp => set_nvs (d := Res.fail) (kp := kp) (l := s.low) (x := min (lw s i) (mt s k)) (i := i) (by rw [hw.l]; exact hi)
      by_cases ho0 : gof s k = none
      · rw [if_pos ho0] at h
        rw [ho0] at ho
        have ih := L26 V hr hi ks (j + 1) (setLow i (min (lw s i) (mt s k)) s) s' hd' hks' (hw.low i _) hg h
        simp only [setLow, c1] at ih
        have ea : ans26 N i { s with low := s.low.set i (min (lw s i) (mt s k)) } s' = ans26 N i s s' := rfl
        rw [ea] at ih
        simp [-mxK_min, hj, idx_nvs hx, idx_nvs hm, h0, idx_ovs ho, eO, idx_nvs hli, mx_n, hset, e0, c1, ih]
      · rw [if_neg ho0] at h
        obtain ⟨g, hgo⟩ := Option.ne_none_iff_exists'.1 ho0
        rw [hgo] at ho
        have hneg : ¬ (g : Int) < 0 := by omega
        have ih := L26 V hr hi ks (j + 1) s s' hd' hks' hw hg h
        simp only [c1] at ih
        simp [-mxK_min, hj, idx_nvs hx, idx_nvs hm, h0, idx_ovs ho, eO, hneg, e0, c1, ih]
def ans24 (N : List (List Nat)) (i : Nat) (s s' : St) : Rs := if s'.n = s.n then (0, [nss N, nS, nvs s'.met, nvs s'.low, ovs s'.of, nvs s'.stk, iv s'.n, iv i]) else if s'.grp = [] then (2, [nss N, nS, nvs s'.met, nvs s'.low, ovs s'.of, iv s'.n, nvs s'.stk, iv i]) else (3, [nss N, nvs s'.met, nvs s'.low, ovs s'.of, iv s'.n, nvs s'.stk, nss s'.grp, iv i])
theorem L24 (V : VisOk N vis) (hr : row.length ≤ 1000000000) {i : Nat} (hi : i < N.length) : ∀ (ks : List Nat) (j : Nat) (s s' : St), row.drop j = ks → (∀ k ∈ ks, k < N.length) → WF N s → s.grp = [] → edges vis i ks s = some s' →
    ev (q25ab0a (iv (j : Int)) (iv row.length) (nvs row) (iv i) (nss N) (nvs s.met) (nvs s.low) (ovs s.of) (nvs s.stk) (iv s.n)) = some (ans24 N i s s')
  | [], j, s, s', hd, hks, hw, hg, h => by
    have hj : ¬ (j : Int) < row.length := by have := congrArg List.length hd; simp at this; omega
    cases h
    refine Evl.of ?_
    rw [h25ab0a, g25ab0a]
    simp [hj, ans24, hg]
  | k :: ks, j, s, s', hd, hks, hw, hg, h => by
    have hx : row[j]? = some k := by have := congrArg List.head? hd; rwa [List.head?_drop] at this
    have hj : (j : Int) < row.length := by have := (List.getElem?_eq_some_iff.1 hx).1; omega
    have hd' : row.drop (j + 1) = ks := by rw [← List.drop_drop, hd]; rfl
    have hk := hks k (List.mem_cons_self ..)
    have hks' : ∀ k ∈ ks, k < N.length := fun k h => hks k (List.mem_cons_of_mem _ h)
    have e0 := wr (n := j) (by omega)
    rw [edges] at h
    refine Evl.of ?_
    rw [h25ab0a, g25ab0a]
    by_cases h0 : mt s k = 0
    · rw [if_pos h0] at h
      have hm : s.met[k]? = some 0 := at_of h0 (by rw [hw.m]; exact hk)
      split at h
      · cases h
      · rename_i s1 h1
        obtain ⟨hw1, hk1, hn1⟩ := V.keep k s s1 hk hw h0 h1
        have hc := V.c k s s1 hk hw h0 h1 hg
        obtain ⟨hw2, hk2⟩ := edges_keep V.keep ks _ s' hks' (hw1.low i _) h
        have hk2' : Keep s1 s' := (Keep.low i _ s1).trans hk2
        have hli : s1.low[i]? = some (lw s1 i) := at_of rfl (by rw [hw1.l]; exact hi)
        have hlk : s1.low[k]? = some (lw s1 k) := at_of rfl (by rw [hw1.l]; exact hk)
        have hset := fun kp => set_nvs (d := Res.fail) (kp := kp) (l := s1.low) (x := min (lw s1 i) (lw s1 k)) (i := i) (by rw [hw1.l]; exact hi)
        have hn' : ¬ s'.n = s.n := by have := hk2'.kn; omega
        by_cases hf : s1.grp = []
        · have ih := L26 V hr hi ks (j + 1) (setLow i (min (lw s1 i) (lw s1 k)) s1) s' hd' hks' (hw1.low i _) (hf : _) h
          simp only [setLow, c1] at ih
          rw [ansC, if_pos hf] at hc
          have hgn : True := trivial
          have ea : ans26 N i { s1 with low := s1.low.set i (min (lw s1 i) (lw s1 k)) } s' = ans24 N i s s' := by
            simp [ans26, ans24, hn', hgn]
          rw [ea] at ih
          simp [-mxK_min, hj, idx_nvs hx, idx_nvs hm, hc, idx_nvs hli, idx_nvs hlk, mx_n, hset, e0, c1, ih]
        · have ih := L27 V hr hi ks (j + 1) (setLow i (min (lw s1 i) (lw s1 k)) s1) s' hd' hks' (hw1.low i _) (hf : _) h
          simp only [setLow, c1] at ih
          rw [ansC, if_neg hf] at hc
          have hgn : s'.grp ≠ [] := grp_ne hk2' hf
          have ea : ans27 N i { s1 with low := s1.low.set i (min (lw s1 i) (lw s1 k)) } s' = ans24 N i s s' := by
            simp [ans27, ans24, hn', hgn]
          rw [ea] at ih
          simp [-mxK_min, hj, idx_nvs hx, idx_nvs hm, hc, idx_nvs hli, idx_nvs hlk, mx_n, hset, e0, c1, ih]
    · rw [if_neg h0] at h
      have hm : s.met[k]? = some (mt s k) := at_of rfl (by rw [hw.m]; exact hk)
      have hli : s.low[i]? = some (lw s i) := at_of rfl (by rw [hw.l]; exact hi)
      have ho : s.of[k]? = some (gof s k) := at_ofO rfl (by rw [hw.o]; exact hk)
      have hset := fun kp => set_nvs (d := Res.fail) (kp := kp) (l := s.low) (x := min (lw s i) (mt s k)) (i := i) (by rw [hw.l]; exact hi)
      by_cases ho0 : gof s k = none
      · rw [if_pos ho0] at h
        rw [ho0] at ho
        have ih := L24 V hr hi ks (j + 1) (setLow i (min (lw s i) (mt s k)) s) s' hd' hks' (hw.low i _) hg h
        simp only [setLow, c1] at ih
        have ea : ans24 N i { s with low := s.low.set i (min (lw s i) (mt s k)) } s' = ans24 N i s s' := rfl
        rw [ea] at ih
        simp [-mxK_min, hj, idx_nvs hx, idx_nvs hm, h0, idx_ovs ho, eO, idx_nvs hli, mx_n, hset, e0, c1, ih]
      · rw [if_neg ho0] at h
        obtain ⟨g, hgo⟩ := Option.ne_none_iff_exists'.1 ho0
        rw [hgo] at ho
        have hneg : ¬ (g : Int) < 0 := by omega
        have ih := L24 V hr hi ks (j + 1) s s' hd' hks' hw hg h
        simp only [c1] at ih
        simp [-mxK_min, hj, idx_nvs hx, idx_nvs hm, h0, idx_ovs ho, eO, hneg, e0, c1, ih]
def ans34 (N : List (List Nat)) (i : Nat) (s s' : St) : Rs := (3, [nss N, nvs s'.met, nvs s'.low, ovs s'.of, iv s'.n, nvs s'.stk, nss s'.grp, iv i])
theorem L34 (V : VisOk N vis) (hr : row.length ≤ 1000000000) {i : Nat} (hi : i < N.length) : ∀ (ks : List Nat) (j : Nat) (s s' : St), row.drop j = ks → (∀ k ∈ ks, k < N.length) → WF N s → s.grp ≠ [] → edges vis i ks s = some s' →
    ev (q25bb0d (iv (j : Int)) (iv row.length) (nvs row) (iv i) (nss N) (nvs s.met) (nvs s.low) (ovs s.of) (iv s.n) (nvs s.stk) (nss s.grp)) = some (ans34 N i s s')
  | [], j, s, s', hd, hks, hw, hg, h => by
    have hj : ¬ (j : Int) < row.length := by have := congrArg List.length hd; simp at this; omega
    cases h
    refine Evl.of ?_
    rw [h25bb0d, g25bb0d]
    simp [hj, ans34, hg]
  | k :: ks, j, s, s', hd, hks, hw, hg, h => by
    have hx : row[j]? = some k := by have := congrArg List.head? hd; rwa [List.head?_drop] at this
    have hj : (j : Int) < row.length := by have := (List.getElem?_eq_some_iff.1 hx).1; omega
    have hd' : row.drop (j + 1) = ks := by rw [← List.drop_drop, hd]; rfl
    have hk := hks k (List.mem_cons_self ..)
    have hks' : ∀ k ∈ ks, k < N.length := fun k h => hks k (List.mem_cons_of_mem _ h)
    have e0 := wr (n := j) (by omega)
    rw [edges] at h
    refine Evl.of ?_
    rw [h25bb0d, g25bb0d]
    by_cases h0 : mt s k = 0
    · rw [if_pos h0] at h
      have hm : s.met[k]? = some 0 := at_of h0 (by rw [hw.m]; exact hk)
      split at h
      · cases h
      · rename_i s1 h1
        obtain ⟨hw1, hk1, hn1⟩ := V.keep k s s1 hk hw h0 h1
        have hc := V.d k s s1 hk hw h0 h1 hg
        obtain ⟨hw2, hk2⟩ := edges_keep V.keep ks _ s' hks' (hw1.low i _) h
        have hk2' : Keep s1 s' := (Keep.low i _ s1).trans hk2
        have hli : s1.low[i]? = some (lw s1 i) := at_of rfl (by rw [hw1.l]; exact hi)
        have hlk : s1.low[k]? = some (lw s1 k) := at_of rfl (by rw [hw1.l]; exact hk)
        have hset := fun kp => set_nvs (d := Res.fail) (kp := kp) (l := s1.low) (x := min (lw s1 i) (lw s1 k)) (i := i) (by rw [hw1.l]; exact hi)
        have hn' : ¬ s'.n = s.n := by have := hk2'.kn; omega
        by_cases hf : s1.grp = s.grp
        · have ih := L34 V hr hi ks (j + 1) (setLow i (min (lw s1 i) (lw s1 k)) s1) s' hd' hks' (hw1.low i _) (grp_ne hk1 hg : _) h
          simp only [setLow, c1] at ih
          rw [ansD, if_pos hf] at hc
          have hgn : True := trivial
          have ea : ans34 N i { s1 with low := s1.low.set i (min (lw s1 i) (lw s1 k)) } s' = ans34 N i s s' := by
            simp [ans34, ans34, hn', hgn, hf]
          rw [ea] at ih
          rw [hf] at hc ih
          simp [-mxK_min, hj, idx_nvs hx, idx_nvs hm, hc, idx_nvs hli, idx_nvs hlk, mx_n, hset, e0, c1, ih]
        · have ih := L34 V hr hi ks (j + 1) (setLow i (min (lw s1 i) (lw s1 k)) s1) s' hd' hks' (hw1.low i _) (grp_ne hk1 hg : _) h
          simp only [setLow, c1] at ih
          rw [ansD, if_neg hf] at hc
          have hgn : s'.grp ≠ s.grp := grp_ne2 hk1 hk2' hf
          have ea : ans34 N i { s1 with low := s1.low.set i (min (lw s1 i) (lw s1 k)) } s' = ans34 N i s s' := by
            simp [ans34, ans34, hn', hgn]
          rw [ea] at ih
          simp [-mxK_min, hj, idx_nvs hx, idx_nvs hm, hc, idx_nvs hli, idx_nvs hlk, mx_n, hset, e0, c1, ih]
    · rw [if_neg h0] at h
      have hm : s.met[k]? = some (mt s k) := at_of rfl (by rw [hw.m]; exact hk)
      have hli : s.low[i]? = some (lw s i) := at_of rfl (by rw [hw.l]; exact hi)
      have ho : s.of[k]? = some (gof s k) := at_ofO rfl (by rw [hw.o]; exact hk)
      have hset := fun kp => set_nvs (d := Res.fail) (kp := kp) (l := s.low) (x := min (lw s i) (mt s k)) (i := i) (by rw [hw.l]; exact hi)
      by_cases ho0 : gof s k = none
      · rw [if_pos ho0] at h
        rw [ho0] at ho
        have ih := L34 V hr hi ks (j + 1) (setLow i (min (lw s i) (mt s k)) s) s' hd' hks' (hw.low i _) hg h
        simp only [setLow, c1] at ih
        have ea : ans34 N i { s with low := s.low.set i (min (lw s i) (mt s k)) } s' = ans34 N i s s' := rfl
        rw [ea] at ih
        simp [-mxK_min, hj, idx_nvs hx, idx_nvs hm, h0, idx_ovs ho, eO, idx_nvs hli, mx_n, hset, e0, c1, ih]
      · rw [if_neg ho0] at h
        obtain ⟨g, hgo⟩ := Option.ne_none_iff_exists'.1 ho0
        rw [hgo] at ho
        have hneg : ¬ (g : Int) < 0 := by omega
        have ih := L34 V hr hi ks (j + 1) s s' hd' hks' hw hg h
        simp only [c1] at ih
        simp [-mxK_min, hj, idx_nvs hx, idx_nvs hm, h0, idx_ovs ho, eO, hneg, e0, c1, ih]
def ans33 (N : List (List Nat)) (i : Nat) (s s' : St) : Rs := if s'.grp = s.grp then (2, [nss N, nvs s'.met, nvs s'.low, ovs s'.of, nss s'.grp, iv s'.n, nvs s'.stk, iv i]) else (3, [nss N, nvs s'.met, nvs s'.low, ovs s'.of, iv s'.n, nvs s'.stk, nss s'.grp, iv i])
theorem L33 (V : VisOk N vis) (hr : row.length ≤ 1000000000) {i : Nat} (hi : i < N.length) : ∀ (ks : List Nat) (j : Nat) (s s' : St), row.drop j = ks → (∀ k ∈ ks, k < N.length) → WF N s → s.grp ≠ [] → edges vis i ks s = some s' →
    ev (q25bb0c (iv (j : Int)) (iv row.length) (nvs row) (iv i) (nss N) (nvs s.met) (nvs s.low) (ovs s.of) (nss s.grp) (iv s.n) (nvs s.stk)) = some (ans33 N i s s')
  | [], j, s, s', hd, hks, hw, hg, h => by
    have hj : ¬ (j : Int) < row.length := by have := congrArg List.length hd; simp at this; omega
    cases h
    refine Evl.of ?_
    rw [h25bb0c, g25bb0c]
    simp [hj, ans33, hg]
  | k :: ks, j, s, s', hd, hks, hw, hg, h => by
    have hx : row[j]? = some k := by have := congrArg List.head? hd; rwa [List.head?_drop] at this
    have hj : (j : Int) < row.length := by have := (List.getElem?_eq_some_iff.1 hx).1; omega
    have hd' : row.drop (j + 1) = ks := by rw [← List.drop_drop, hd]; rfl
    have hk := hks k (List.mem_cons_self ..)
    have hks' : ∀ k ∈ ks, k < N.length := fun k h => hks k (List.mem_cons_of_mem _ h)
    have e0 := wr (n := j) (by omega)
    rw [edges] at h
    refine Evl.of ?_
    rw [h25bb0c, g25bb0c]
    by_cases h0 : mt s k = 0
    · rw [if_pos h0] at h
      have hm : s.met[k]? = some 0 := at_of h0 (by rw [hw.m]; exact hk)
      split at h
      · cases h
      · rename_i s1 h1
        obtain ⟨hw1, hk1, hn1⟩ := V.keep k s s1 hk hw h0 h1
        have hc := V.d k s s1 hk hw h0 h1 hg
        obtain ⟨hw2, hk2⟩ := edges_keep V.keep ks _ s' hks' (hw1.low i _) h
        have hk2' : Keep s1 s' := (Keep.low i _ s1).trans hk2
        have hli : s1.low[i]? = some (lw s1 i) := at_of rfl (by rw [hw1.l]; exact hi)
        have hlk : s1.low[k]? = some (lw s1 k) := at_of rfl (by rw [hw1.l]; exact hk)
        have hset := fun kp => set_nvs (d := Res.fail) (kp := kp) (l := s1.low) (x := min (lw s1 i) (lw s1 k)) (i := i) (by rw [hw1.l]; exact hi)
        have hn' : ¬ s'.n = s.n := by have := hk2'.kn; omega
        by_cases hf : s1.grp = s.grp
        · have ih := L33 V hr hi ks (j + 1) (setLow i (min (lw s1 i) (lw s1 k)) s1) s' hd' hks' (hw1.low i _) (grp_ne hk1 hg : _) h
          simp only [setLow, c1] at ih
          rw [ansD, if_pos hf] at hc
          have hgn : True := trivial
          have ea : ans33 N i { s1 with low := s1.low.set i (min (lw s1 i) (lw s1 k)) } s' = ans33 N i s s' := by
            simp [ans33, ans33, hn', hgn, hf]
          rw [ea] at ih
          rw [hf] at hc ih
          simp [-mxK_min, hj, idx_nvs hx, idx_nvs hm, hc, idx_nvs hli, idx_nvs hlk, mx_n, hset, e0, c1, ih]
        · have ih := L34 V hr hi ks (j + 1) (setLow i (min (lw s1 i) (lw s1 k)) s1) s' hd' hks' (hw1.low i _) (grp_ne hk1 hg : _) h
          simp only [setLow, c1] at ih
          rw [ansD, if_neg hf] at hc
          have hgn : s'.grp ≠ s.grp := grp_ne2 hk1 hk2' hf
          have ea : ans34 N i { s1 with low := s1.low.set i (min (lw s1 i) (lw s1 k)) } s' = ans33 N i s s' := by
            simp [ans34, ans33, hn', hgn]
          rw [ea] at ih
          simp [-mxK_min, hj, idx_nvs hx, idx_nvs hm, hc, idx_nvs hli, idx_nvs hlk, mx_n, hset, e0, c1, ih]
    · rw [if_neg h0] at h
      have hm : s.met[k]? = some (mt s k) := at_of rfl (by rw [hw.m]; exact hk)
      have hli : s.low[i]? = some (lw s i) := at_of rfl (by rw [hw.l]; exact hi)
      have ho : s.of[k]? = some (gof s k) := at_ofO rfl (by rw [hw.o]; exact hk)
      have hset := fun kp => set_nvs (d := Res.fail) (kp := kp) (l := s.low) (x := min (lw s i) (mt s k)) (i := i) (by rw [hw.l]; exact hi)
      by_cases ho0 : gof s k = none
      · rw [if_pos ho0] at h
        rw [ho0] at ho
        have ih := L33 V hr hi ks (j + 1) (setLow i (min (lw s i) (mt s k)) s) s' hd' hks' (hw.low i _) hg h
        simp only [setLow, c1] at ih
        have ea : ans33 N i { s with low := s.low.set i (min (lw s i) (mt s k)) } s' = ans33 N i s s' := rfl
        rw [ea] at ih
        simp [-mxK_min, hj, idx_nvs hx, idx_nvs hm, h0, idx_ovs ho, eO, idx_nvs hli, mx_n, hset, e0, c1, ih]
      · rw [if_neg ho0] at h
        obtain ⟨g, hgo⟩ := Option.ne_none_iff_exists'.1 ho0
        rw [hgo] at ho
        have hneg : ¬ (g : Int) < 0 := by omega
        have ih := L33 V hr hi ks (j + 1) s s' hd' hks' hw hg h
        simp only [c1] at ih
        simp [-mxK_min, hj, idx_nvs hx, idx_nvs hm, h0, idx_ovs ho, eO, hneg, e0, c1, ih]
def ans31 (N : List (List Nat)) (i : Nat) (s s' : St) : Rs := if s'.n = s.n then (0, [nss N, nvs s'.met, nvs s'.low, ovs s'.of, nvs s'.stk, nss s'.grp, iv s'.n, iv i]) else if s'.grp = s.grp then (2, [nss N, nvs s'.met, nvs s'.low, ovs s'.of, nss s'.grp, iv s'.n, nvs s'.stk, iv i]) else (3, [nss N, nvs s'.met, nvs s'.low, ovs s'.of, iv s'.n, nvs s'.stk, nss s'.grp, iv i])
theorem L31 (V : VisOk N vis) (hr : row.length ≤ 1000000000) {i : Nat} (hi : i < N.length) : ∀ (ks : List Nat) (j : Nat) (s s' : St), row.drop j = ks → (∀ k ∈ ks, k < N.length) → WF N s → s.grp ≠ [] → edges vis i ks s = some s' →
    ev (q25bb0a (iv (j : Int)) (iv row.length) (nvs row) (iv i) (nss N) (nvs s.met) (nvs s.low) (ovs s.of) (nvs s.stk) (nss s.grp) (iv s.n)) = some (ans31 N i s s')
  | [], j, s, s', hd, hks, hw, hg, h => by
    have hj : ¬ (j : Int) < row.length := by have := congrArg List.length hd; simp at this; omega
    cases h
    refine Evl.of ?_
    rw [h25bb0a, g25bb0a]
    simp [hj, ans31, hg]
  | k :: ks, j, s, s', hd, hks, hw, hg, h => by
    have hx : row[j]? = some k := by have := congrArg List.head? hd; rwa [List.head?_drop] at this
    have hj : (j : Int) < row.length := by have := (List.getElem?_eq_some_iff.1 hx).1; omega
    have hd' : row.drop (j + 1) = ks := by rw [← List.drop_drop, hd]; rfl
    have hk := hks k (List.mem_cons_self ..)
    have hks' : ∀ k ∈ ks, k < N.length := fun k h => hks k (List.mem_cons_of_mem _ h)
    have e0 := wr (n := j) (by omega)
    rw [edges] at h
    refine Evl.of ?_
    rw [h25bb0a, g25bb0a]
    by_cases h0 : mt s k = 0
    · rw [if_pos h0] at h
      have hm : s.met[k]? = some 0 := at_of h0 (by rw [hw.m]; exact hk)
      split at h
      · cases h
      · rename_i s1 h1
        obtain ⟨hw1, hk1, hn1⟩ := V.keep k s s1 hk hw h0 h1
        have hc := V.d k s s1 hk hw h0 h1 hg
        obtain ⟨hw2, hk2⟩ := edges_keep V.keep ks _ s' hks' (hw1.low i _) h
        have hk2' : Keep s1 s' := (Keep.low i _ s1).trans hk2
        have hli : s1.low[i]? = some (lw s1 i) := at_of rfl (by rw [hw1.l]; exact hi)
        have hlk : s1.low[k]? = some (lw s1 k) := at_of rfl (by rw [hw1.l]; exact hk)
        have hset := fun kp => set_nvs (d := Res.fail) (kp := kp) (l := s1.low) (x := min (lw s1 i) (lw s1 k)) (i := i) (by rw [hw1.l]; exact hi)
        have hn' : ¬ s'.n = s.n := by have := hk2'.kn; omega
        by_cases hf : s1.grp = s.grp
        · have ih := L33 V hr hi ks (j + 1) (setLow i (min (lw s1 i) (lw s1 k)) s1) s' hd' hks' (hw1.low i _) (grp_ne hk1 hg : _) h
          simp only [setLow, c1] at ih
          rw [ansD, if_pos hf] at hc
          have hgn : True := trivial
          have ea : ans33 N i { s1 with low := s1.low.set i (min (lw s1 i) (lw s1 k)) } s' = ans31 N i s s' := by
            simp [ans33, ans31, hn', hgn, hf]
          rw [ea] at ih
          rw [hf] at hc ih
          simp [-mxK_min, hj, idx_nvs hx, idx_nvs hm, hc, idx_nvs hli, idx_nvs hlk, mx_n, hset, e0, c1, ih]
        · have ih := L34 V hr hi ks (j + 1) (setLow i (min (lw s1 i) (lw s1 k)) s1) s' hd' hks' (hw1.low i _) (grp_ne hk1 hg : _) h
          simp only [setLow, c1] at ih
          rw [ansD, if_neg hf] at hc
          have hgn : s'.grp ≠ s.grp := grp_ne2 hk1 hk2' hf
          have ea : ans34 N i { s1 with low := s1.low.set i (min (lw s1 i) (lw s1 k)) } s' = ans31 N i s s' := by
            simp [ans34, ans31, hn', hgn]
          rw [ea] at ih
          simp [-mxK_min, hj, idx_nvs hx, idx_nvs hm, hc, idx_nvs hli, idx_nvs hlk, mx_n, hset, e0, c1, ih]
    · rw [if_neg h0] at h
      have hm : s.met[k]? = some (mt s k) := at_of rfl (by rw [hw.m]; exact hk)
      have hli : s.low[i]? = some (lw s i) := at_of rfl (by rw [hw.l]; exact hi)
      have ho : s.of[k]? = some (gof s k) := at_ofO rfl (by rw [hw.o]; exact hk)
      have hset := fun kp => set_nvs (d := Res.fail) (kp := kp) (l := s.low) (x := min (lw s i) (mt s k)) (i := i) (by rw [hw.l]; exact hi)
      by_cases ho0 : gof s k = none
      · rw [if_pos ho0] at h
        rw [ho0] at ho
        have ih := L31 V hr hi ks (j + 1) (setLow i (min (lw s i) (mt s k)) s) s' hd' hks' (hw.low i _) hg h
        simp only [setLow, c1] at ih
        have ea : ans31 N i { s with low := s.low.set i (min (lw s i) (mt s k)) } s' = ans31 N i s s' := rfl
        rw [ea] at ih
        simp [-mxK_min, hj, idx_nvs hx, idx_nvs hm, h0, idx_ovs ho, eO, idx_nvs hli, mx_n, hset, e0, c1, ih]
      · rw [if_neg ho0] at h
        obtain ⟨g, hgo⟩ := Option.ne_none_iff_exists'.1 ho0
        rw [hgo] at ho
        have hneg : ¬ (g : Int) < 0 := by omega
        have ih := L31 V hr hi ks (j + 1) s s' hd' hks' hw hg h
        simp only [c1] at ih
        simp [-mxK_min, hj, idx_nvs hx, idx_nvs hm, h0, idx_ovs ho, eO, hneg, e0, c1, ih]
end

theorem nrow_at {N : List (List Nat)} {i : Nat} (h : i < N.length) : N[i]? = some (N.getD i []) := by
  rw [List.getD_eq_getElem?_getD, List.getElem?_eq_getElem h]; rfl
theorem top_lt {N : List (List Nat)} {s : St} (h : WF N s) (i : Nat) : ∀ k ∈ top i s, k < N.length := fun k hk =>
  (h.sk k (List.mem_of_mem_drop ((sortN_perm _).subset hk))).1
theorem top_len (i : Nat) (s : St) : (top i s).length = (s.stk.drop (s.stk.idxOf i)).length := (sortN_perm _).length_eq
structure Bnd (N : List (List Nat)) : Prop where
  rng : Rng N
  len : N.length ≤ 100000
  row : ∀ l ∈ N, l.length ≤ 1000000000
theorem stk_le {N : List (List Nat)} (hB : Bnd N) {s : St} (h : WF N s) : s.stk.length ≤ 100000 ∧ s.grp.length ≤ 100000 ∧ s.n ≤ 100000 := by
  have := h.c
  have := h.gs
  have := hB.len
  omega
section
variable {N : List (List Nat)} {f : Nat}

theorem vis_a (V : VisOk N (visF N f)) (hB : Bnd N) {i : Nat} {s s' : St} (hi : i < N.length) (hw : WF N s) (h0 : mt s i = 0) (h : visF N (f + 1) i s = some s') : s.grp = [] → s.stk = [] → ev (q25a (iv i) (iv s.n) (nss N) (nvs s.met) (nvs s.low) (ovs s.of)) = some (ansC N s') := fun hg hs => by
  rw [visF] at h
  split at h
  · cases h
  rename_i s2 h1
  cases h
  have hw1 := hw.push hi h0
  have hk1 := Keep.push hw hi h0
  obtain ⟨hw2, hk2⟩ := edges_keep V.keep _ _ _ (hB.rng.at i) hw1 h1
  have hrow := nrow_at hi
  have hL := L24 V (hB.row _ (List.mem_of_getElem? hrow)) hi _ 0 (pushS i s) s2 rfl (hB.rng.at i) hw1 hg h1
  obtain ⟨M, hM⟩ : ∃ M, M = s.n + 1 := ⟨_, rfl⟩
  obtain ⟨b1, b2, b3⟩ := stk_le hB hw
  have e1 : IntKind.i64.wrap ((s.n : Int) + 1) = (M : Int) := by rw [hM]; exact wr (by omega)
  have hm : s.met[i]? = some 0 := at_of h0 (by rw [hw.m]; exact hi)
  have hl : s.low[i]? = some (lw s i) := at_of rfl (by rw [hw.l]; exact hi)
  have hs1 := fun kp => set_nvs (d := Res.fail) (kp := kp) (l := s.met) (x := M) (i := i) (by rw [hw.m]; exact hi)
  have hs2 := fun kp => set_nvs (d := Res.fail) (kp := kp) (l := s.low) (x := M) (i := i) (by rw [hw.l]; exact hi)
  have hap := fun kp => apn_nvs (d := Res.fail) (kp := kp) (x := i)
  simp only [Int.natCast_zero, Int.ofNat_zero] at hL
  have hpm : (pushS i s).met = s.met.set i M := by rw [hM]; rfl
  have hpl : (pushS i s).low = s.low.set i M := by rw [hM]; rfl
  have hpo : (pushS i s).of = s.of := rfl
  have hpg : (pushS i s).grp = s.grp := rfl
  have hpn : (pushS i s).n = M := hM.symm
  have hps : (pushS i s).stk = s.stk ++ [i] := rfl
  rw [hpm, hpl, hpo, hpn, hps] at hL
  generalize N.getD i [] = row at hrow hL
  rw [hs, List.nil_append] at hL
  have hm2 : s2.met[i]? = some (mt s2 i) := at_of rfl (by rw [hw2.m]; exact hi)
  have hl2 : s2.low[i]? = some (lw s2 i) := at_of rfl (by rw [hw2.l]; exact hi)
  have hin : i ∈ s2.stk := hk2.ks.subset (by simp [pushS])
  obtain ⟨c1', c2', c3'⟩ := stk_le hB hw2
  have hix := index_ev (l := s2.stk) (by omega) hin
  have hlt := List.idxOf_lt_length_iff.2 hin
  have hdr := fun k => drop_nvs (d := Res.fail) (k := k) (l := s2.stk) (i := s2.stk.idxOf i) (Nat.le_of_lt hlt)
  have htk := fun k => take_nvs (d := Res.fail) (k := k) (l := s2.stk) (i := s2.stk.idxOf i) (Nat.le_of_lt hlt)
  have hval := values_ev (iv (s2.stk.idxOf i : Nat)) (nvs (s2.stk.drop (s2.stk.idxOf i))) (nvs s2.stk)
  have hsr := sorted_ev (l := s2.stk) (a := s2.stk.idxOf i) (by omega) (Nat.le_of_lt hlt)
  have htl : (top i s2).length ≤ 1000000000 := by rw [top_len, List.length_drop]; omega
  have hma := mark_a N (top i s2) htl (nvs s2.met) (nvs s2.low) (nvs (s2.stk.take (s2.stk.idxOf i))) N.length (top i s2) 0 s2.of hw2.o (top_lt hw2 i) rfl
  have hmb := mark_b N (top i s2) htl (nvs s2.met) (nvs s2.low) (nvs (s2.stk.take (s2.stk.idxOf i))) s2.grp N.length (top i s2) 0 s2.of hw2.o (top_lt hw2 i) rfl
  have hag := fun kp => app_nss (d := Res.fail) (kp := kp) (l := s2.grp) (x := top i s2) (by omega)
  have han := fun kp => apn_nss (d := Res.fail) (kp := kp) (x := top i s2)
  rw [show sortN (s2.stk.drop (s2.stk.idxOf i)) = top i s2 from rfl] at hsr
  simp only [Int.natCast_zero, Int.ofNat_zero] at hma hmb
  refine Evl.of ?_
  rw [h25a, g25a]
  by_cases hn : s2.n = M
  · obtain ⟨hgn, hsn⟩ := hk2.k0 (by rw [hpn]; exact hn)
    rw [hpg, hg] at hgn
    rw [hps] at hsn
    rw [ans24, if_pos (by rw [hpn]; exact hn)] at hL
    rw [hs, List.nil_append] at hsn
    rw [hgn, List.length_nil] at hmb
    rw [hgn] at hag
    simp only [← hsn] at hL hap
    by_cases hlo : lw s2 i < mt s2 i
    · have hlo' : (lw s2 i : Int) < mt s2 i := by omega
      rw [closeS_same hlo]
      simp [-mxK_min, e1, idx_nvs hm, idx_nvs hl, hs1, hs2, hap, idx_nss hrow, hL, idx_nvs hm2, idx_nvs hl2, hlo', ansC, hgn]
    · have hlo' : ¬ (lw s2 i : Int) < mt s2 i := by omega
      rw [closeS_pop hlo]
      have hne : ¬ s2.grp ++ [top i s2] = [] := by simp
      simp [-mxK_min, e1, idx_nvs hm, idx_nvs hl, hs1, hs2, hap, idx_nss hrow, hL, idx_nvs hm2, idx_nvs hl2, hlo', hix, hdr, hval, hsr, htk, hma, hag, han, ansC, hgn, hne]
  · rw [ans24, if_neg (by rw [hpn]; exact hn)] at hL
    by_cases hgn : s2.grp = []
    · rw [if_pos hgn] at hL
      rw [hgn, List.length_nil] at hmb
      rw [hgn] at hag
      by_cases hlo : lw s2 i < mt s2 i
      · have hlo' : (lw s2 i : Int) < mt s2 i := by omega
        rw [closeS_same hlo]
        simp [-mxK_min, e1, idx_nvs hm, idx_nvs hl, hs1, hs2, hap, idx_nss hrow, hL, idx_nvs hm2, idx_nvs hl2, hlo', ansC, hgn]
      · have hlo' : ¬ (lw s2 i : Int) < mt s2 i := by omega
        rw [closeS_pop hlo]
        have hne : ¬ s2.grp ++ [top i s2] = [] := by simp
        simp [-mxK_min, e1, idx_nvs hm, idx_nvs hl, hs1, hs2, hap, idx_nss hrow, hL, idx_nvs hm2, idx_nvs hl2, hlo', hix, hdr, hval, hsr, htk, hma, hag, han, ansC, hgn, hne]
    · rw [if_neg hgn] at hL
      by_cases hlo : lw s2 i < mt s2 i
      · have hlo' : (lw s2 i : Int) < mt s2 i := by omega
        rw [closeS_same hlo]
        simp [-mxK_min, e1, idx_nvs hm, idx_nvs hl, hs1, hs2, hap, idx_nss hrow, hL, idx_nvs hm2, idx_nvs hl2, hlo', ansC, hgn]
      · have hlo' : ¬ (lw s2 i : Int) < mt s2 i := by omega
        rw [closeS_pop hlo]
        have hne : ¬ s2.grp ++ [top i s2] = [] := by simp
        simp [-mxK_min, e1, idx_nvs hm, idx_nvs hl, hs1, hs2, hap, idx_nss hrow, hL, idx_nvs hm2, idx_nvs hl2, hlo', hix, hdr, hval, hsr, htk, hmb, hag, han, ansC, hgn, hne]

theorem vis_c (V : VisOk N (visF N f)) (hB : Bnd N) {i : Nat} {s s' : St} (hi : i < N.length) (hw : WF N s) (h0 : mt s i = 0) (h : visF N (f + 1) i s = some s') : s.grp = [] → ev (q25c (iv i) (iv s.n) (nss N) (nvs s.met) (nvs s.low) (ovs s.of) (nvs s.stk)) = some (ansC N s') := fun hg => by
  rw [visF] at h
  split at h
  · cases h
  rename_i s2 h1
  cases h
  have hw1 := hw.push hi h0
  have hk1 := Keep.push hw hi h0
  obtain ⟨hw2, hk2⟩ := edges_keep V.keep _ _ _ (hB.rng.at i) hw1 h1
  have hrow := nrow_at hi
  have hL := L24 V (hB.row _ (List.mem_of_getElem? hrow)) hi _ 0 (pushS i s) s2 rfl (hB.rng.at i) hw1 hg h1
  obtain ⟨M, hM⟩ : ∃ M, M = s.n + 1 := ⟨_, rfl⟩
  obtain ⟨b1, b2, b3⟩ := stk_le hB hw
  have e1 : IntKind.i64.wrap ((s.n : Int) + 1) = (M : Int) := by rw [hM]; exact wr (by omega)
  have hm : s.met[i]? = some 0 := at_of h0 (by rw [hw.m]; exact hi)
  have hl : s.low[i]? = some (lw s i) := at_of rfl (by rw [hw.l]; exact hi)
  have hs1 := fun kp => set_nvs (d := Res.fail) (kp := kp) (l := s.met) (x := M) (i := i) (by rw [hw.m]; exact hi)
  have hs2 := fun kp => set_nvs (d := Res.fail) (kp := kp) (l := s.low) (x := M) (i := i) (by rw [hw.l]; exact hi)
  have hap := fun kp => app_nvs (d := Res.fail) (kp := kp) (l := s.stk) (x := i) (by omega)
  simp only [Int.natCast_zero, Int.ofNat_zero] at hL
  have hpm : (pushS i s).met = s.met.set i M := by rw [hM]; rfl
  have hpl : (pushS i s).low = s.low.set i M := by rw [hM]; rfl
  have hpo : (pushS i s).of = s.of := rfl
  have hpg : (pushS i s).grp = s.grp := rfl
  have hpn : (pushS i s).n = M := hM.symm
  have hps : (pushS i s).stk = s.stk ++ [i] := rfl
  rw [hpm, hpl, hpo, hpn, hps] at hL
  generalize N.getD i [] = row at hrow hL
  have hm2 : s2.met[i]? = some (mt s2 i) := at_of rfl (by rw [hw2.m]; exact hi)
  have hl2 : s2.low[i]? = some (lw s2 i) := at_of rfl (by rw [hw2.l]; exact hi)
  have hin : i ∈ s2.stk := hk2.ks.subset (by simp [pushS])
  obtain ⟨c1', c2', c3'⟩ := stk_le hB hw2
  have hix := index_ev (l := s2.stk) (by omega) hin
  have hlt := List.idxOf_lt_length_iff.2 hin
  have hdr := fun k => drop_nvs (d := Res.fail) (k := k) (l := s2.stk) (i := s2.stk.idxOf i) (Nat.le_of_lt hlt)
  have htk := fun k => take_nvs (d := Res.fail) (k := k) (l := s2.stk) (i := s2.stk.idxOf i) (Nat.le_of_lt hlt)
  have hval := values_ev (iv (s2.stk.idxOf i : Nat)) (nvs (s2.stk.drop (s2.stk.idxOf i))) (nvs s2.stk)
  have hsr := sorted_ev (l := s2.stk) (a := s2.stk.idxOf i) (by omega) (Nat.le_of_lt hlt)
  have htl : (top i s2).length ≤ 1000000000 := by rw [top_len, List.length_drop]; omega
  have hma := mark_a N (top i s2) htl (nvs s2.met) (nvs s2.low) (nvs (s2.stk.take (s2.stk.idxOf i))) N.length (top i s2) 0 s2.of hw2.o (top_lt hw2 i) rfl
  have hmb := mark_b N (top i s2) htl (nvs s2.met) (nvs s2.low) (nvs (s2.stk.take (s2.stk.idxOf i))) s2.grp N.length (top i s2) 0 s2.of hw2.o (top_lt hw2 i) rfl
  have hag := fun kp => app_nss (d := Res.fail) (kp := kp) (l := s2.grp) (x := top i s2) (by omega)
  have han := fun kp => apn_nss (d := Res.fail) (kp := kp) (x := top i s2)
  rw [show sortN (s2.stk.drop (s2.stk.idxOf i)) = top i s2 from rfl] at hsr
  simp only [Int.natCast_zero, Int.ofNat_zero] at hma hmb
  refine Evl.of ?_
  rw [h25c, g25c]
  by_cases hn : s2.n = M
  · obtain ⟨hgn, hsn⟩ := hk2.k0 (by rw [hpn]; exact hn)
    rw [hpg, hg] at hgn
    rw [hps] at hsn
    rw [ans24, if_pos (by rw [hpn]; exact hn)] at hL
    rw [hgn, List.length_nil] at hmb
    rw [hgn] at hag
    simp only [← hsn] at hL hap
    by_cases hlo : lw s2 i < mt s2 i
    · have hlo' : (lw s2 i : Int) < mt s2 i := by omega
      rw [closeS_same hlo]
      simp [-mxK_min, e1, idx_nvs hm, idx_nvs hl, hs1, hs2, hap, idx_nss hrow, hL, idx_nvs hm2, idx_nvs hl2, hlo', ansC, hgn]
    · have hlo' : ¬ (lw s2 i : Int) < mt s2 i := by omega
      rw [closeS_pop hlo]
      have hne : ¬ s2.grp ++ [top i s2] = [] := by simp
      simp [-mxK_min, e1, idx_nvs hm, idx_nvs hl, hs1, hs2, hap, idx_nss hrow, hL, idx_nvs hm2, idx_nvs hl2, hlo', hix, hdr, hval, hsr, htk, hma, hag, han, ansC, hgn, hne]
  · rw [ans24, if_neg (by rw [hpn]; exact hn)] at hL
    by_cases hgn : s2.grp = []
    · rw [if_pos hgn] at hL
      rw [hgn, List.length_nil] at hmb
      rw [hgn] at hag
      by_cases hlo : lw s2 i < mt s2 i
      · have hlo' : (lw s2 i : Int) < mt s2 i := by omega
        rw [closeS_same hlo]
        simp [-mxK_min, e1, idx_nvs hm, idx_nvs hl, hs1, hs2, hap, idx_nss hrow, hL, idx_nvs hm2, idx_nvs hl2, hlo', ansC, hgn]
      · have hlo' : ¬ (lw s2 i : Int) < mt s2 i := by omega
        rw [closeS_pop hlo]
        have hne : ¬ s2.grp ++ [top i s2] = [] := by simp
        simp [-mxK_min, e1, idx_nvs hm, idx_nvs hl, hs1, hs2, hap, idx_nss hrow, hL, idx_nvs hm2, idx_nvs hl2, hlo', hix, hdr, hval, hsr, htk, hma, hag, han, ansC, hgn, hne]
    · rw [if_neg hgn] at hL
      by_cases hlo : lw s2 i < mt s2 i
      · have hlo' : (lw s2 i : Int) < mt s2 i := by omega
        rw [closeS_same hlo]
        simp [-mxK_min, e1, idx_nvs hm, idx_nvs hl, hs1, hs2, hap, idx_nss hrow, hL, idx_nvs hm2, idx_nvs hl2, hlo', ansC, hgn]
      · have hlo' : ¬ (lw s2 i : Int) < mt s2 i := by omega
        rw [closeS_pop hlo]
        have hne : ¬ s2.grp ++ [top i s2] = [] := by simp
        simp [-mxK_min, e1, idx_nvs hm, idx_nvs hl, hs1, hs2, hap, idx_nss hrow, hL, idx_nvs hm2, idx_nvs hl2, hlo', hix, hdr, hval, hsr, htk, hmb, hag, han, ansC, hgn, hne]

theorem vis_d (V : VisOk N (visF N f)) (hB : Bnd N) {i : Nat} {s s' : St} (hi : i < N.length) (hw : WF N s) (h0 : mt s i = 0) (h : visF N (f + 1) i s = some s') : s.grp ≠ [] → ev (q25d (iv i) (iv s.n) (nss N) (nvs s.met) (nvs s.low) (ovs s.of) (nvs s.stk) (nss s.grp)) = some (ansD N s s') := fun hg => by
  rw [visF] at h
  split at h
  · cases h
  rename_i s2 h1
  cases h
  have hw1 := hw.push hi h0
  have hk1 := Keep.push hw hi h0
  obtain ⟨hw2, hk2⟩ := edges_keep V.keep _ _ _ (hB.rng.at i) hw1 h1
  have hrow := nrow_at hi
  have hL := L31 V (hB.row _ (List.mem_of_getElem? hrow)) hi _ 0 (pushS i s) s2 rfl (hB.rng.at i) hw1 hg h1
  obtain ⟨M, hM⟩ : ∃ M, M = s.n + 1 := ⟨_, rfl⟩
  obtain ⟨b1, b2, b3⟩ := stk_le hB hw
  have e1 : IntKind.i64.wrap ((s.n : Int) + 1) = (M : Int) := by rw [hM]; exact wr (by omega)
  have hm : s.met[i]? = some 0 := at_of h0 (by rw [hw.m]; exact hi)
  have hl : s.low[i]? = some (lw s i) := at_of rfl (by rw [hw.l]; exact hi)
  have hs1 := fun kp => set_nvs (d := Res.fail) (kp := kp) (l := s.met) (x := M) (i := i) (by rw [hw.m]; exact hi)
  have hs2 := fun kp => set_nvs (d := Res.fail) (kp := kp) (l := s.low) (x := M) (i := i) (by rw [hw.l]; exact hi)
  have hap := fun kp => app_nvs (d := Res.fail) (kp := kp) (l := s.stk) (x := i) (by omega)
  simp only [Int.natCast_zero, Int.ofNat_zero] at hL
  have hpm : (pushS i s).met = s.met.set i M := by rw [hM]; rfl
  have hpl : (pushS i s).low = s.low.set i M := by rw [hM]; rfl
  have hpo : (pushS i s).of = s.of := rfl
  have hpg : (pushS i s).grp = s.grp := rfl
  have hpn : (pushS i s).n = M := hM.symm
  have hps : (pushS i s).stk = s.stk ++ [i] := rfl
  rw [hpm, hpl, hpo, hpg, hpn, hps] at hL
  generalize N.getD i [] = row at hrow hL
  have hm2 : s2.met[i]? = some (mt s2 i) := at_of rfl (by rw [hw2.m]; exact hi)
  have hl2 : s2.low[i]? = some (lw s2 i) := at_of rfl (by rw [hw2.l]; exact hi)
  have hin : i ∈ s2.stk := hk2.ks.subset (by simp [pushS])
  obtain ⟨c1', c2', c3'⟩ := stk_le hB hw2
  have hix := index_ev (l := s2.stk) (by omega) hin
  have hlt := List.idxOf_lt_length_iff.2 hin
  have hdr := fun k => drop_nvs (d := Res.fail) (k := k) (l := s2.stk) (i := s2.stk.idxOf i) (Nat.le_of_lt hlt)
  have htk := fun k => take_nvs (d := Res.fail) (k := k) (l := s2.stk) (i := s2.stk.idxOf i) (Nat.le_of_lt hlt)
  have hval := values_ev (iv (s2.stk.idxOf i : Nat)) (nvs (s2.stk.drop (s2.stk.idxOf i))) (nvs s2.stk)
  have hsr := sorted_ev (l := s2.stk) (a := s2.stk.idxOf i) (by omega) (Nat.le_of_lt hlt)
  have htl : (top i s2).length ≤ 1000000000 := by rw [top_len, List.length_drop]; omega
  have hma := mark_a N (top i s2) htl (nvs s2.met) (nvs s2.low) (nvs (s2.stk.take (s2.stk.idxOf i))) N.length (top i s2) 0 s2.of hw2.o (top_lt hw2 i) rfl
  have hmb := mark_b N (top i s2) htl (nvs s2.met) (nvs s2.low) (nvs (s2.stk.take (s2.stk.idxOf i))) s2.grp N.length (top i s2) 0 s2.of hw2.o (top_lt hw2 i) rfl
  have hag := fun kp => app_nss (d := Res.fail) (kp := kp) (l := s2.grp) (x := top i s2) (by omega)
  have han := fun kp => apn_nss (d := Res.fail) (kp := kp) (x := top i s2)
  rw [show sortN (s2.stk.drop (s2.stk.idxOf i)) = top i s2 from rfl] at hsr
  simp only [Int.natCast_zero, Int.ofNat_zero] at hma hmb
  refine Evl.of ?_
  rw [h25d, g25d]
  by_cases hn : s2.n = M
  · obtain ⟨hgn, hsn⟩ := hk2.k0 (by rw [hpn]; exact hn)
    rw [hpg] at hgn
    rw [hps] at hsn
    rw [ans31, if_pos (by rw [hpn]; exact hn), hgn] at hL
    rw [hgn] at hmb hag
    simp only [← hsn] at hL hap
    by_cases hlo : lw s2 i < mt s2 i
    · have hlo' : (lw s2 i : Int) < mt s2 i := by omega
      rw [closeS_same hlo]
      simp [-mxK_min, e1, idx_nvs hm, idx_nvs hl, hs1, hs2, hap, idx_nss hrow, hL, idx_nvs hm2, idx_nvs hl2, hlo', ansD, hgn]
    · have hlo' : ¬ (lw s2 i : Int) < mt s2 i := by omega
      rw [closeS_pop hlo]
      have hne : ¬ s2.grp ++ [top i s2] = s.grp := fun e => by
        have h5 := congrArg List.length e
        have h6 : s.grp.length ≤ s2.grp.length := (List.IsPrefix.length_le (hk1.trans hk2).kg)
        simp at h5
        omega
      simp [-mxK_min, e1, idx_nvs hm, idx_nvs hl, hs1, hs2, hap, idx_nss hrow, hL, idx_nvs hm2, idx_nvs hl2, hlo', hix, hdr, hval, hsr, htk, hmb, hag, han, ansD, hgn, hne]
  · rw [ans31, if_neg (by rw [hpn]; exact hn)] at hL
    by_cases hgn : s2.grp = s.grp
    · rw [hpg, if_pos hgn, hgn] at hL
      rw [hgn] at hmb hag
      by_cases hlo : lw s2 i < mt s2 i
      · have hlo' : (lw s2 i : Int) < mt s2 i := by omega
        rw [closeS_same hlo]
        simp [-mxK_min, e1, idx_nvs hm, idx_nvs hl, hs1, hs2, hap, idx_nss hrow, hL, idx_nvs hm2, idx_nvs hl2, hlo', ansD, hgn]
      · have hlo' : ¬ (lw s2 i : Int) < mt s2 i := by omega
        rw [closeS_pop hlo]
        have hne : ¬ s2.grp ++ [top i s2] = s.grp := fun e => by
          have h5 := congrArg List.length e
          have h6 : s.grp.length ≤ s2.grp.length := (List.IsPrefix.length_le (hk1.trans hk2).kg)
          simp at h5
          omega
        simp [-mxK_min, e1, idx_nvs hm, idx_nvs hl, hs1, hs2, hap, idx_nss hrow, hL, idx_nvs hm2, idx_nvs hl2, hlo', hix, hdr, hval, hsr, htk, hmb, hag, han, ansD, hgn, hne]
    · rw [hpg, if_neg hgn] at hL
      by_cases hlo : lw s2 i < mt s2 i
      · have hlo' : (lw s2 i : Int) < mt s2 i := by omega
        rw [closeS_same hlo]
        simp [-mxK_min, e1, idx_nvs hm, idx_nvs hl, hs1, hs2, hap, idx_nss hrow, hL, idx_nvs hm2, idx_nvs hl2, hlo', ansD, hgn]
      · have hlo' : ¬ (lw s2 i : Int) < mt s2 i := by omega
        rw [closeS_pop hlo]
        have hne : ¬ s2.grp ++ [top i s2] = s.grp := fun e => by
          have h5 := congrArg List.length e
          have h6 : s.grp.length ≤ s2.grp.length := (List.IsPrefix.length_le (hk1.trans hk2).kg)
          simp at h5
          omega
        simp [-mxK_min, e1, idx_nvs hm, idx_nvs hl, hs1, hs2, hap, idx_nss hrow, hL, idx_nvs hm2, idx_nvs hl2, hlo', hix, hdr, hval, hsr, htk, hmb, hag, han, ansD, hgn, hne]

theorem vis_ok (hB : Bnd N) : ∀ f, VisOk N (visF N f)
  | 0 => ⟨fun k s s' _ _ _ h => (by cases h), fun k s s' _ _ _ h _ => (by cases h), fun k s s' _ _ _ h _ => (by cases h)⟩
  | f + 1 => ⟨fun k s s' hk hw h0 h => vis_keep hB.rng (f + 1) k s s' hk hw h0 h, fun k s s' hk hw h0 h => vis_c (vis_ok hB f) hB hk hw h0 h, fun k s s' hk hw h0 h => vis_d (vis_ok hB f) hB hk hw h0 h⟩
theorem vis_a' (hB : Bnd N) {i : Nat} {s s' : St} (hi : i < N.length) (hw : WF N s) (h0 : mt s i = 0) : ∀ {f : Nat}, visF N f i s = some s' → s.grp = [] → s.stk = [] → ev (q25a (iv i) (iv s.n) (nss N) (nvs s.met) (nvs s.low) (ovs s.of)) = some (ansC N s')
  | 0, h => by cases h
  | f + 1, h => vis_a (vis_ok hB f) hB hi hw h0 h
end
end Go.Proofs.Ytkfdklocgpgbfaa
namespace Go.Proofs.Ytkfdklocgpgbfaa

def hdG (g : List Nat) : Nat := g.getD 0 0
def gi (s : St) (x : Nat) : Nat := (gof s x).getD 0
def gat (s : St) (j : Nat) : List Nat := s.grp.getD j []
def readyF (N : List (List Nat)) (s : St) (c : List Bool) (g : List Nat) : Bool := g.all fun i => (nd N i).all fun k => decide (gof s k = gof s i) || c.getD (gi s k) false
def okP (N : List (List Nat)) (s : St) (c : List Bool) (i : Nat) : Bool := !c.getD (gi s i) false && (decide (hdG (gat s (gi s i)) = i) && readyF N s c (gat s (gi s i)))
def pickP (N : List (List Nat)) (s : St) (c : List Bool) : Option Nat := (List.range N.length).find? (okP N s c)
def ordF (N : List (List Nat)) (s : St) : Nat → List Bool → List (List Nat) → Option (List (List Nat))
  | 0, _, o => some o
  | t + 1, c, o => match pickP N s c with
    | none => none
    | some i => ordF N s t (c.set (gi s i) true) (o ++ [gat s (gi s i)])
def okR (N : List (List Nat)) (c : List Bool) (i : Nat) : Bool := !c.getD i false && (List.range N.length).all fun k => !RB N i k || c.getD k false || tog N i k
def pickR (N : List (List Nat)) (c : List Bool) : Option Nat := (List.range N.length).find? (okR N c)
def grpR (N : List (List Nat)) (a : Nat) : List Nat := (List.range N.length).filter (tog N a)
def markR (c : List Bool) (g : List Nat) : List Bool := g.foldl (fun c k => c.set k true) c
def refF (N : List (List Nat)) : Nat → List Bool → List (List Nat) → List (List Nat)
  | 0, _, o => o
  | t + 1, c, o => match pickR N c with
    | none => refF N t c o
    | some a => refF N t (markR c (grpR N a)) (o ++ [grpR N a])
theorem markR_len : ∀ (g : List Nat) (c : List Bool), (markR c g).length = c.length
  | [], c => rfl
  | k :: g, c => by
    show (markR (c.set k true) g).length = _
    rw [markR_len g, List.length_set]
theorem markR_at : ∀ (g : List Nat) (c : List Bool) (x : Nat), x < c.length → (markR c g).getD x false = (decide (x ∈ g) || c.getD x false)
  | [], c, x, _ => by simp [markR]
  | k :: g, c, x, hx => by
    show (markR (c.set k true) g).getD x false = _
    rw [markR_at g _ x (by simpa using hx), getD_set]
    by_cases h1 : x ∈ g
    · simp [h1]
    · by_cases h2 : k = x
      · subst h2; simp [hx]
      · have h3 : ¬ x = k := fun e => h2 e.symm
        simp [h1, h2, h3]
theorem gof_gi {N : List (List Nat)} {s : St} (h : Done N s) {x : Nat} (hx : x < N.length) : gof s x = some (gi s x) := by
  obtain ⟨j, hj⟩ := Option.ne_none_iff_exists'.1 (h.all x hx)
  rw [gi, hj]; rfl
theorem gi_lt {N : List (List Nat)} {s : St} (h : Done N s) {x : Nat} (hx : x < N.length) : gi s x < s.grp.length := h.inv.dl x _ (gof_gi h hx)
theorem gat_some {s : St} {j : Nat} (hj : j < s.grp.length) : s.grp[j]? = some (gat s j) := by
  unfold gat
  rw [List.getD_eq_getElem?_getD, List.getElem?_eq_getElem hj]; rfl
theorem gat_mem {N : List (List Nat)} {s : St} (h : Done N s) {j x : Nat} (hj : j < s.grp.length) : x ∈ gat s j ↔ x < N.length ∧ gi s x = j := by
  rw [(h.inv.gs j _ (gat_some hj)).2.2]
  constructor
  · intro hx
    have h1 := h.inv.inN hx
    refine ⟨h1, ?_⟩
    rw [gof_gi h h1] at hx
    exact Option.some.inj hx
  · rintro ⟨h1, h2⟩
    rw [gof_gi h h1, h2]
theorem together {N : List (List Nat)} {s : St} (hr : Rng N) (h : Done N s) {x y : Nat} (hx : x < N.length) (hy : y < N.length) : gi s y = gi s x ↔ tog N x y = true := by
  rw [tog_iff hr hx hy, ← h.inv.scc x _ (gof_gi h hx) y, gof_gi h hy]
  constructor
  · intro e; rw [e]
  · intro e; exact Option.some.inj e
/-- What has come, on both sides. -/
structure Joint (N : List (List Nat)) (s : St) (cp cr : List Bool) (t : Nat) : Prop where
  pl : cp.length = s.grp.length
  rl : cr.length = N.length
  eq : ∀ x, x < N.length → cr.getD x false = cp.getD (gi s x) false
  cl : ∀ x, x < N.length → cr.getD x false = true → ∀ k ∈ nd N x, cr.getD k false = true
  cnt : cp.count true = t
theorem ready_iff {N : List (List Nat)} {s : St} (hr : Rng N) (h : Done N s) {cp cr : List Bool} {t : Nat} (J : Joint N s cp cr t) {i : Nat} (hi : i < N.length) :
    readyF N s cp (gat s (gi s i)) = true ↔ ∀ k, k < N.length → RB N i k = true → cr.getD k false = true ∨ tog N i k = true := by
  unfold readyF
  simp only [List.all_eq_true, Bool.or_eq_true, decide_eq_true_eq]
  constructor
  · intro hg k hk hik
    have hcl : ∀ x, (x < N.length ∧ (cr.getD x false = true ∨ gi s x = gi s i)) → ∀ q ∈ nd N x, (q < N.length ∧ (cr.getD q false = true ∨ gi s q = gi s i)) := fun x hx q hq => by
      have hqN := hr.at x q hq
      refine ⟨hqN, ?_⟩
      rcases hx with ⟨hxN, hx | hx⟩
      · exact .inl (J.cl x hxN hx q hq)
      · rcases hg x ((gat_mem h (gi_lt h hi)).2 ⟨hxN, hx⟩) q hq with h1 | h1
        · rw [gof_gi h hqN, gof_gi h hxN] at h1
          exact .inr ((Option.some.inj h1).trans hx)
        · rw [← J.eq q hqN] at h1
          exact .inl h1
    have h1 := (((RB_iff hr hi).1 hik).rch).closed hcl ⟨hi, .inr rfl⟩
    rcases h1.2 with h2 | h2
    · exact .inl h2
    · exact .inr ((together hr h hi hk).1 h2)
  · intro hh x hx k hk
    obtain ⟨hxN, hxi⟩ := (gat_mem h (gi_lt h hi)).1 hx
    have hkN := hr.at x k hk
    have hix : Rch N i x := ((tog_iff hr hi hxN).1 ((together hr h hi hxN).1 hxi)).1
    have hik : Rch1 N i k := by
      cases hix with
      | refl => exact ⟨k, hk, .refl _⟩
      | step hq hq' => exact ⟨_, hq, hq'.trans (.one hk)⟩
    rcases hh k hkN ((RB_iff hr hi).2 hik) with h1 | h1
    · right
      rw [← J.eq k hkN]; exact h1
    · left
      rw [gof_gi h hkN, gof_gi h hxN, (together hr h hi hkN).2 h1, hxi]
theorem okR_iff {N : List (List Nat)} {s : St} (hr : Rng N) (h : Done N s) {cp cr : List Bool} {t : Nat} (J : Joint N s cp cr t) {i : Nat} (hi : i < N.length) :
    okR N cr i = true ↔ cp.getD (gi s i) false = false ∧ readyF N s cp (gat s (gi s i)) = true := by
  rw [ready_iff hr h J hi]
  unfold okR
  simp only [Bool.and_eq_true, List.all_eq_true, List.mem_range, Bool.or_eq_true, Bool.not_eq_true', J.eq i hi]
  constructor
  · rintro ⟨h1, h2⟩
    refine ⟨h1, fun k hk hik => ?_⟩
    rcases h2 k hk with (h3 | h3) | h3
    · rw [hik] at h3; cases h3
    · exact .inl h3
    · exact .inr h3
  · rintro ⟨h1, h2⟩
    refine ⟨h1, fun k hk => ?_⟩
    cases hik : RB N i k with
    | false => exact .inl (.inl rfl)
    | true => rcases h2 k hk hik with h3 | h3
              · exact .inl (.inr h3)
              · exact .inr h3
/-- The first of a group. -/
theorem hd_mem {N : List (List Nat)} {s : St} (h : Done N s) {j : Nat} (hj : j < s.grp.length) : hdG (gat s j) ∈ gat s j ∧ ∀ x ∈ gat s j, hdG (gat s j) ≤ x := by
  obtain ⟨h1, h2, _⟩ := h.inv.gs j _ (gat_some hj)
  cases hg : gat s j with
  | nil => exact absurd hg h1
  | cons a l =>
    rw [hg] at h2
    refine ⟨List.mem_cons_self .., fun x hx => ?_⟩
    rcases List.mem_cons.1 hx with rfl | hx
    · exact Nat.le_refl _
    · exact Nat.le_of_lt ((List.pairwise_cons.1 h2).1 x hx)
theorem okP_iff {N : List (List Nat)} {s : St} (hr : Rng N) (h : Done N s) {cp cr : List Bool} {t : Nat} (J : Joint N s cp cr t) {i : Nat} (hi : i < N.length) :
    okP N s cp i = true ↔ okR N cr i = true ∧ hdG (gat s (gi s i)) = i := by
  rw [okR_iff hr h J hi]
  unfold okP
  simp only [Bool.and_eq_true, Bool.not_eq_true', decide_eq_true_eq]
  constructor
  · rintro ⟨a, b, c⟩; exact ⟨⟨a, c⟩, b⟩
  · rintro ⟨⟨a, c⟩, b⟩; exact ⟨a, b, c⟩
theorem ok_head {N : List (List Nat)} {s : St} (hr : Rng N) (h : Done N s) {cp cr : List Bool} {t : Nat} (J : Joint N s cp cr t) {i : Nat} (hi : i < N.length) (ho : okR N cr i = true) :
    okP N s cp (hdG (gat s (gi s i))) = true ∧ hdG (gat s (gi s i)) ≤ i := by
  have hl := gi_lt h hi
  obtain ⟨h1, h2⟩ := hd_mem h hl
  obtain ⟨h3, h4⟩ := (gat_mem h hl).1 h1
  refine ⟨?_, h2 i ((gat_mem h hl).2 ⟨hi, rfl⟩)⟩
  rw [okP_iff hr h J h3, okR_iff hr h J h3, h4]
  exact ⟨(okR_iff hr h J hi).1 ho, rfl⟩
theorem pick_eq {N : List (List Nat)} {s : St} (hr : Rng N) (h : Done N s) {cp cr : List Bool} {t : Nat} (J : Joint N s cp cr t) : pickR N cr = pickP N s cp := by
  cases hp : pickP N s cp with
  | none =>
    unfold pickP at hp
    unfold pickR
    rw [List.find?_range_eq_none] at hp ⊢
    intro i hi
    cases ho : okR N cr i with
    | false => rfl
    | true =>
      obtain ⟨h1, h2⟩ := ok_head hr h J hi ho
      have := hp _ (Nat.lt_of_le_of_lt h2 hi)
      rw [h1] at this
      cases this
  | some i =>
    unfold pickP at hp
    unfold pickR
    rw [List.find?_range_eq_some] at hp ⊢
    obtain ⟨h1, h2, h3⟩ := hp
    have hi := List.mem_range.1 h2
    refine ⟨((okP_iff hr h J hi).1 h1).1, h2, fun j hj => ?_⟩
    cases ho : okR N cr j with
    | false => rfl
    | true =>
      obtain ⟨h4, h5⟩ := ok_head hr h J (Nat.lt_trans hj hi) ho
      have := h3 _ (Nat.lt_of_le_of_lt h5 hj)
      rw [h4] at this
      cases this
/-- Two rows in order with the same things are one. -/
theorem sorted_ext : ∀ {a b : List Nat}, a.Pairwise (· < ·) → b.Pairwise (· < ·) → (∀ x, x ∈ a ↔ x ∈ b) → a = b
  | [], [], _, _, _ => rfl
  | [], y :: b, _, _, h => by have := (h y).2 (List.mem_cons_self ..); cases this
  | x :: a, [], _, _, h => by have := (h x).1 (List.mem_cons_self ..); cases this
  | x :: a, y :: b, ha, hb, h => by
    obtain ⟨ha1, ha2⟩ := List.pairwise_cons.1 ha
    obtain ⟨hb1, hb2⟩ := List.pairwise_cons.1 hb
    have hxy : x = y := by
      rcases List.mem_cons.1 ((h x).1 (List.mem_cons_self ..)) with h1 | h1
      · exact h1
      · rcases List.mem_cons.1 ((h y).2 (List.mem_cons_self ..)) with h2 | h2
        · exact h2.symm
        · have := ha1 y h2
          have := hb1 x h1
          omega
    subst hxy
    congr 1
    refine sorted_ext ha2 hb2 fun z => ?_
    constructor
    · intro hz
      rcases List.mem_cons.1 ((h z).1 (List.mem_cons_of_mem _ hz)) with h1 | h1
      · subst h1; have := ha1 z hz; omega
      · exact h1
    · intro hz
      rcases List.mem_cons.1 ((h z).2 (List.mem_cons_of_mem _ hz)) with h1 | h1
      · subst h1; have := hb1 z hz; omega
      · exact h1
theorem grpR_mem {N : List (List Nat)} {a x : Nat} : x ∈ grpR N a ↔ x < N.length ∧ tog N a x = true := by
  unfold grpR
  rw [List.mem_filter, List.mem_range]
theorem grp_eq {N : List (List Nat)} {s : St} (hr : Rng N) (h : Done N s) {i : Nat} (hi : i < N.length) : grpR N i = gat s (gi s i) := by
  refine sorted_ext (List.Pairwise.sublist List.filter_sublist List.pairwise_lt_range) (h.inv.gs _ _ (gat_some (gi_lt h hi))).2.1 fun x => ?_
  rw [grpR_mem, gat_mem h (gi_lt h hi)]
  constructor
  · rintro ⟨h1, h2⟩; exact ⟨h1, (together hr h hi h1).2 h2⟩
  · rintro ⟨h1, h2⟩; exact ⟨h1, (together hr h hi h1).1 h2⟩
theorem getD_lt {c : List Bool} {j : Nat} (h : j < c.length) : c.getD j false = c[j] := by
  rw [List.getD_eq_getElem?_getD, List.getElem?_eq_getElem h]; rfl
theorem Joint.next {N : List (List Nat)} {s : St} (hr : Rng N) (h : Done N s) {cp cr : List Bool} {t : Nat} (J : Joint N s cp cr t) {i : Nat} (hp : pickP N s cp = some i) :
    Joint N s (cp.set (gi s i) true) (markR cr (grpR N i)) (t + 1) ∧ i < N.length := by
  have hp' := hp
  unfold pickP at hp'
  rw [List.find?_range_eq_some] at hp'
  obtain ⟨h1, h2, _⟩ := hp'
  have hi := List.mem_range.1 h2
  obtain ⟨ho, _⟩ := (okP_iff hr h J hi).1 h1
  obtain ⟨hc, hg⟩ := (okR_iff hr h J hi).1 ho
  have hl := gi_lt h hi
  have heq : ∀ x, x < N.length → (markR cr (grpR N i)).getD x false = (cp.set (gi s i) true).getD (gi s x) false := fun x hx => by
    rw [markR_at _ _ _ (by rw [J.rl]; exact hx), getD_set, J.pl, J.eq x hx]
    by_cases hxg : x ∈ grpR N i
    · have := (together hr h hi hx).2 (grpR_mem.1 hxg).2
      rw [if_pos ⟨this.symm, hl⟩]
      simp [hxg]
    · have : ¬ (gi s i = gi s x ∧ gi s i < s.grp.length) := fun e => hxg (grpR_mem.2 ⟨hx, (together hr h hi hx).1 e.1.symm⟩)
      rw [if_neg this]
      simp [hxg]
  refine ⟨⟨by rw [List.length_set]; exact J.pl, by rw [markR_len]; exact J.rl, heq, fun x hx hcx k hk => ?_, ?_⟩, hi⟩
  · have hkN := hr.at x k hk
    rw [markR_at _ _ _ (by rw [J.rl]; exact hx)] at hcx
    rw [markR_at _ _ _ (by rw [J.rl]; exact hkN)]
    simp only [Bool.or_eq_true, decide_eq_true_eq] at hcx ⊢
    rcases hcx with hcx | hcx
    · obtain ⟨_, h3⟩ := grpR_mem.1 hcx
      have h4 := (together hr h hi hx).2 h3
      have h5 : ∀ z ∈ gat s (gi s i), ∀ k ∈ nd N z, gof s k = gof s z ∨ cp.getD (gi s k) false = true := by
        unfold readyF at hg
        simpa only [List.all_eq_true, Bool.or_eq_true, decide_eq_true_eq] using hg
      rcases h5 x ((gat_mem h hl).2 ⟨hx, h4⟩) k hk with h6 | h6
      · left
        rw [gof_gi h hkN, gof_gi h hx] at h6
        exact grpR_mem.2 ⟨hkN, (together hr h hi hkN).1 ((Option.some.inj h6).trans h4)⟩
      · right
        rw [J.eq k hkN]; exact h6
    · exact .inr (J.cl x hx hcx k hk)
  · have hl' : gi s i < cp.length := by rw [J.pl]; exact hl
    rw [getD_lt hl'] at hc
    rw [List.count_set hl']
    simp [hc, J.cnt]
theorem Joint.some {N : List (List Nat)} {s : St} (hr : Rng N) (h : Done N s) {cp cr : List Bool} {t : Nat} (J : Joint N s cp cr t) (ht : t < s.grp.length) : ∃ i, pickP N s cp = some i := by
  have hex : ∃ j, j < cp.length ∧ cp.getD j false = false := by
    apply Decidable.byContradiction
    intro hn
    have hall : ∀ b ∈ cp, true = b := fun b hb => by
      obtain ⟨j, hj, e⟩ := List.getElem_of_mem hb
      cases b with
      | true => rfl
      | false => exact absurd ⟨j, hj, by rw [getD_lt hj]; exact e⟩ hn
    have := List.count_eq_length.2 hall
    rw [J.cnt, J.pl] at this
    omega
  -- the first group that has not come
  have hmin : ∃ j, (j < cp.length ∧ cp.getD j false = false) ∧ ∀ j', j' < j → cp.getD j' false = true := by
    obtain ⟨j, hj, hj2⟩ := hex
    have key : ∀ m, ∀ j, j ≤ m → j < cp.length → cp.getD j false = false → ∃ j, (j < cp.length ∧ cp.getD j false = false) ∧ ∀ j', j' < j → cp.getD j' false = true := by
      intro m
      induction m with
      | zero => intro j hm hj hj2; exact ⟨j, ⟨hj, hj2⟩, fun j' h => by omega⟩
      | succ m ih =>
        intro j hm hj hj2
        by_cases hh : ∃ j', j' < j ∧ cp.getD j' false = false
        · obtain ⟨j', h1, h2⟩ := hh
          exact ih j' (by omega) (by omega) h2
        · refine ⟨j, ⟨hj, hj2⟩, fun j' h => ?_⟩
          cases hc : cp.getD j' false with
          | true => rfl
          | false => exact absurd ⟨j', h, hc⟩ hh
    exact key j j (Nat.le_refl _) hj hj2
  obtain ⟨j, ⟨hj, hj2⟩, hlt⟩ := hmin
  have hjl : j < s.grp.length := by rw [← J.pl]; exact hj
  obtain ⟨h1, h2⟩ := hd_mem h hjl
  obtain ⟨h3, h4⟩ := (gat_mem h hjl).1 h1
  have hok : okP N s cp (hdG (gat s j)) = true := by
    rw [okP_iff hr h J h3, okR_iff hr h J h3, h4]
    refine ⟨⟨hj2, ?_⟩, rfl⟩
    unfold readyF
    simp only [List.all_eq_true, Bool.or_eq_true, decide_eq_true_eq]
    intro x hx k hk
    obtain ⟨hx1, hx2⟩ := (gat_mem h hjl).1 hx
    obtain ⟨j', hj', hle⟩ := h.inv.ord x j (by rw [gof_gi h hx1, hx2]) k hk
    by_cases he : j' = j
    · left; rw [hj', he, gof_gi h hx1, hx2]
    · right
      have : gi s k = j' := by rw [gi, hj']; rfl
      rw [this]
      exact hlt j' (by omega)
  cases hp : pickP N s cp with
  | some i => exact ⟨i, rfl⟩
  | none =>
    unfold pickP at hp
    rw [List.find?_range_eq_none] at hp
    have := hp _ h3
    rw [hok] at this
    cases this
theorem Joint.none {N : List (List Nat)} {s : St} (hr : Rng N) (h : Done N s) {cp cr : List Bool} (J : Joint N s cp cr s.grp.length) : pickR N cr = none := by
  unfold pickR
  rw [List.find?_range_eq_none]
  intro i hi
  have hc : cp.getD (gi s i) false = true := by
    have hl : gi s i < cp.length := by rw [J.pl]; exact gi_lt h hi
    have hall := List.count_eq_length.1 (J.cnt.trans J.pl.symm)
    rw [getD_lt hl]
    exact (hall _ (List.getElem_mem hl)).symm
  cases ho : okR N cr i with
  | false => rfl
  | true =>
    have := ((okR_iff hr h J hi).1 ho).1
    rw [hc] at this
    cases this
theorem refF_none {N : List (List Nat)} {c : List Bool} (h : pickR N c = none) : ∀ (t : Nat) (o : List (List Nat)), refF N t c o = o
  | 0, _ => rfl
  | t + 1, o => by rw [refF, h]; exact refF_none h t o
theorem ord_ref {N : List (List Nat)} {s : St} (hr : Rng N) (h : Done N s) : ∀ (m : Nat) (cp cr : List Bool) (t : Nat) (o : List (List Nat)) (q : Nat), Joint N s cp cr t → t + m = s.grp.length → m ≤ q → ∃ out, ordF N s m cp o = some out ∧ refF N q cr o = out
  | 0, cp, cr, t, o, q, J, ht, _ => by
    have : t = s.grp.length := by omega
    subst this
    exact ⟨o, rfl, refF_none (J.none hr h) q o⟩
  | m + 1, cp, cr, t, o, q, J, ht, hq => by
    obtain ⟨i, hi⟩ := J.some hr h (by omega)
    obtain ⟨J', hiN⟩ := J.next hr h hi
    cases q with
    | zero => omega
    | succ q =>
      obtain ⟨out, h1, h2⟩ := ord_ref hr h m _ _ (t + 1) (o ++ [gat s (gi s i)]) q J' (by omega) (by omega)
      refine ⟨out, ?_, ?_⟩
      · rw [ordF, hi]; exact h1
      · rw [refF, pick_eq hr h J, hi]
        show refF N q (markR cr (grpR N i)) (o ++ [grpR N i]) = out
        rw [← grp_eq hr h hiN] at h2
        exact h2
theorem joint0 (N : List (List Nat)) (s : St) : Joint N s (List.replicate s.grp.length false) (List.replicate N.length false) 0 :=
  ⟨by simp, by simp, fun x _ => by rw [getD_rep _ _ _ rfl, getD_rep _ _ _ rfl], fun x _ hc => (by rw [getD_rep _ _ _ rfl] at hc; cases hc), by simp [List.count_replicate]⟩
/-- The document's groups. -/
def groupsR (N : List (List Nat)) : List (List Nat) := refF N N.length (List.replicate N.length false) []
theorem groups_eq {N : List (List Nat)} {s : St} (hr : Rng N) (h : Done N s) : ordF N s s.grp.length (List.replicate s.grp.length false) [] = some (groupsR N) := by
  have hl : s.grp.length ≤ N.length := by
    have h1 := h.inv.wf.gs
    have h2 := h.inv.wf.c
    omega
  obtain ⟨out, h1, h2⟩ := ord_ref hr h s.grp.length _ _ 0 [] N.length (joint0 N s) (by omega) hl
  rw [h1, ← h2]; rfl
end Go.Proofs.Ytkfdklocgpgbfaa
namespace Go.Proofs.Ytkfdklocgpgbfaa
open Go.RowKit

@[simp] theorem lenK_nil22 {k : AV → Res} : lenK PG .fail 22 (.pv (.lit (.slice none 0 0))) k = k (.pv (iv 0)) := lenK_of (fun r => by
  have h : ∀ ty, builtinA PG .len #[22] ty [.pv nS] = some (.pv (.lit (.int .i64 0))) := fun ty => by kernel_rfl
  constructor
  · intro hr
    have h1 := hr 0
    rw [h 0] at h1
    exact (Option.some.inj h1).symm
  · rintro rfl; exact h) (nsa_lit _)
def rbRows (N : List (List Nat)) : List (List Bool) := (List.range N.length).map fun i => (List.range N.length).map fun k => RB N i k
theorem rb_at {N : List (List Nat)} {i : Nat} (hi : i < N.length) : (rbRows N)[i]? = some ((List.range N.length).map fun k => RB N i k) := by
  unfold rbRows
  rw [List.getElem?_map, List.getElem?_range hi]; rfl
theorem rb_at2 {N : List (List Nat)} {i k : Nat} (hk : k < N.length) : ((List.range N.length).map fun k => RB N i k)[k]? = some (RB N i k) := by
  rw [List.getElem?_map, List.getElem?_range hk]; rfl
theorem come_at {c : List Bool} {k : Nat} (hk : k < c.length) : c[k]? = some (c.getD k false) := by
  rw [List.getD_eq_getElem?_getD, List.getElem?_eq_getElem hk]; rfl
theorem tog_ev {N : List (List Nat)} {i k : Nat} (hi : i < N.length) (hk : k < N.length) : ev (q19 (bsr (rbRows N)) (iv i) (iv k)) = some (0, [bv (tog N i k)]) := Evl.of (by
  rw [h19, g19]
  by_cases he : i = k
  · subst he; simp [tog]
  · have he' : ¬ (i : Int) = k := by omega
    have hb : (i == k) = false := by simpa using he
    cases h1 : RB N i k with
    | false =>
      have h1' := rb_at2 (N := N) (i := i) hk
      rw [h1] at h1'
      simp [he', idx_bsr (rb_at hi), idx_bvr h1', tog, hb, h1]
    | true =>
      have h1' := rb_at2 (N := N) (i := i) hk
      rw [h1] at h1'
      have h2' := rb_at2 (N := N) (i := k) hi
      cases h2 : RB N k i with
      | false =>
        rw [h2] at h2'
        simp [he', idx_bsr (rb_at hi), idx_bvr h1', idx_bsr (rb_at hk), idx_bvr h2', tog, hb, h1, h2]
      | true =>
        rw [h2] at h2'
        simp [he', idx_bsr (rb_at hi), idx_bvr h1', idx_bsr (rb_at hk), idx_bvr h2', tog, hb, h1, h2])
/-- Is this one no hindrance? -/
def okK (N : List (List Nat)) (c : List Bool) (i k : Nat) : Bool := !RB N i k || c.getD k false || tog N i k
def fromR (N : List (List Nat)) (k : Nat) : List Nat := (List.range N.length).drop k
theorem from_out {N : List (List Nat)} {k : Nat} (h : N.length ≤ k) : fromR N k = [] := by unfold fromR; exact List.drop_eq_nil_of_le (by simpa using h)
theorem from_in {N : List (List Nat)} {k : Nat} (h : k < N.length) : fromR N k = k :: fromR N (k + 1) := by
  unfold fromR
  rw [List.drop_eq_getElem_cons (by simpa using h)]; simp
section
variable {N : List (List Nat)}

theorem stop_n {i : Nat} (x y : PV) (k : Nat) (c : List Bool) : ev (q10b8a (iv (k : Int)) (nss N) (bsr (rbRows N)) (iv i) x y (bvr c)) = some (0, [bvr c, bf, iv i, nss N, bsr (rbRows N), nS, x, y]) := Evl.of (by
  rw [h10b8a, g10b8a]
  by_cases h : (k : Int) < N.length
  · simp [h]
  · simp [h])
theorem all_n (hb : N.length ≤ 100000) {i : Nat} (hi : i < N.length) (x y : PV) (c : List Bool) (hc : c.length = N.length) : ∀ (m k : Nat), N.length - k = m →
    ev (q10b8b (iv (k : Int)) (nss N) (bsr (rbRows N)) (iv i) x y (bvr c)) = some (0, [bvr c, bv ((fromR N k).all (okK N c i)), iv i, nss N, bsr (rbRows N), nS, x, y])
  | 0, k, hm => by
    have hk : ¬ (k : Int) < N.length := by omega
    refine Evl.of ?_
    rw [h10b8b, g10b8b, from_out (by omega)]
    simp [hk]
  | m + 1, k, hm => by
    have hkn : k < N.length := by omega
    have hk : (k : Int) < N.length := by omega
    have ih := all_n hb hi x y c hc m (k + 1) (by omega)
    have st := stop_n (N := N) (i := i) x y (k + 1) c
    have e0 := wr (n := k) (by omega)
    rw [c1] at ih st e0
    have h1' := rb_at2 (N := N) (i := i) hkn
    have hck := come_at (c := c) (k := k) (by omega)
    have htg := tog_ev hi hkn
    refine Evl.of ?_
    rw [h10b8b, g10b8b, from_in hkn]
    cases h1 : RB N i k with
    | false =>
      rw [h1] at h1'
      simp [hk, idx_bsr (rb_at hi), idx_bvr h1', e0, ih, okK, h1]
    | true =>
      rw [h1] at h1'
      cases h2 : c.getD k false with
      | true =>
        rw [h2] at hck
        have ho : okK N c i k = true := by unfold okK; rw [h1, h2]; rfl
        simp [hk, idx_bsr (rb_at hi), idx_bvr h1', idx_bvr hck, e0, ih, ho]
      | false =>
        rw [h2] at hck
        cases h3 : tog N i k with
        | true =>
          rw [h3] at htg
          have ho : okK N c i k = true := by unfold okK; rw [h1, h2, h3]; rfl
          simp [hk, idx_bsr (rb_at hi), idx_bvr h1', idx_bvr hck, htg, e0, ih, ho]
        | false =>
          rw [h3] at htg
          have ho : okK N c i k = false := by unfold okK; rw [h1, h2, h3]; rfl
          simp [hk, idx_bsr (rb_at hi), idx_bvr h1', idx_bvr hck, htg, e0, st, ho]

theorem find_n (hb : N.length ≤ 100000) (x : PV) (c : List Bool) (hc : c.length = N.length) : ∀ (m i : Nat), N.length - i = m →
    ev (q10b6a (iv (i : Int)) (nss N) (iv (-1)) (bsr (rbRows N)) x (bvr c)) = some (0, [bvr c, (eO ((fromR N i).find? (okR N c))), nss N, bsr (rbRows N), nS, x])
  | 0, i, hm => by
    have hk : ¬ (i : Int) < N.length := by omega
    refine Evl.of ?_
    rw [h10b6a, g10b6a, from_out (by omega)]
    simp [hk, eO]
  | m + 1, i, hm => by
    have hin : i < N.length := by omega
    have hk : (i : Int) < N.length := by omega
    have ih := find_n hb x c hc m (i + 1) (by omega)
    have fin : ev (q10b6a (iv ((i : Int) + 1)) (nss N) (iv (i : Int)) (bsr (rbRows N)) x (bvr c)) = some (0, [bvr c, (iv (i : Int)), nss N, bsr (rbRows N), nS, x]) := Evl.of (by
      have hneg : ¬ (i : Int) < 0 := by omega
      rw [h10b6a, g10b6a]
      by_cases h : (i : Int) + 1 < N.length
      · simp [h, hneg]
      · simp [h, hneg])
    have e0 := wr (n := i) (by omega)
    rw [c1] at ih e0
    have hci := come_at (c := c) (k := i) (by omega)
    have st := stop_n (N := N) (i := i) x (iv (-1)) 0 c
    have al := all_n hb hin x (iv (-1)) c hc N.length 0 (by omega)
    have hfr : fromR N 0 = List.range N.length := rfl
    rw [hfr] at al
    simp only [Int.natCast_zero, Int.ofNat_zero] at al st
    have hok : okR N c i = (!c.getD i false && (List.range N.length).all (okK N c i)) := rfl
    refine Evl.of ?_
    rw [h10b6a, g10b6a, from_in hin, List.find?_cons, hok]
    cases h1 : c.getD i false with
    | true =>
      rw [h1] at hci
      simp [hk, idx_bvr hci, st, e0, ih]
    | false =>
      rw [h1] at hci
      cases h2 : (List.range N.length).all (okK N c i) with
      | true =>
        rw [h2] at al
        simp [hk, idx_bvr hci, al, e0, fin, eO]
      | false =>
        rw [h2] at al
        simp [hk, idx_bvr hci, al, e0, ih]

theorem colc_n (hb : N.length ≤ 100000) {a : Nat} (ha : a < N.length) (x : PV) : ∀ (m k : Nat) (g : List Nat) (c : List Bool), N.length - k = m → g.length ≤ k → c.length = N.length →
    ev (q10b10c (iv (k : Int)) (nss N) (bsr (rbRows N)) (iv a) (g.map fun (q : Nat) => [eN q]) x (bvr c)) = some (1, [bvr (markR c ((fromR N k).filter (tog N a))), nS, nvs (g ++ (fromR N k).filter (tog N a)), x, nss N, bsr (rbRows N)])
  | 0, k, g, c, hm, hg, hc => by
    have hk : ¬ (k : Int) < N.length := by omega
    refine Evl.of ?_
    rw [h10b10c, g10b10c, from_out (by omega)]
    simp [hk, markR]
    rfl
  | m + 1, k, g, c, hm, hg, hc => by
    have hkn : k < N.length := by omega
    have hk : (k : Int) < N.length := by omega
    have e0 := wr (n := k) (by omega)
    rw [c1] at e0
    have htg := tog_ev ha hkn
    have hck := come_at (c := c) (k := k) (by omega)
    have hset := fun kp => set_bvr (d := Res.fail) (kp := kp) (l := c) (x := true) (i := k) (by omega)
    have hap := fun kp => app_nvs (d := Res.fail) (kp := kp) (l := g) (x := k) (by omega)
    refine Evl.of ?_
    rw [h10b10c, g10b10c, from_in hkn, List.filter_cons]
    cases h1 : tog N a k with
    | true =>
      rw [h1] at htg
      have ih := colc_n hb ha x m (k + 1) (g ++ [k]) (c.set k true) (by omega) (by simp; omega) (by simp [hc])
      rw [c1] at ih
      have hgr : ∀ l : List Nat, PV.rows (l.map fun (q : Nat) => [eN q]) = nvs l := fun l => rfl
      have ih2 : Evl PG EE TT ⟨(q10b10c i0 i0 i0 i0 [] i0 i0).k, [iv ((k : Int) + 1), nss N, bsr (rbRows N), iv a, nvs (g ++ [k]), x, bvr (c.set k true)]⟩ = _ := ih
      have hm2 : markR (c.set k true) ((fromR N (k + 1)).filter (tog N a)) = markR c (k :: (fromR N (k + 1)).filter (tog N a)) := rfl
      cases h2 : c.getD k false with
      | true =>
        rw [h2] at hck
        simp [-List.map_append, hk, htg, hgr, hap, idx_bvr hck, hset, e0, ih2, hm2]
      | false =>
        rw [h2] at hck
        simp [-List.map_append, hk, htg, hgr, hap, idx_bvr hck, hset, e0, ih2, hm2]
    | false =>
      rw [h1] at htg
      have ih := colc_n hb ha x m (k + 1) g c (by omega) (by omega) hc
      rw [c1] at ih
      simp [hk, htg, e0, ih]
theorem col_n (hb : N.length ≤ 100000) {a : Nat} (ha : a < N.length) (x : PV) (c : List Bool) (hc : c.length = N.length) : ∀ (m k : Nat), N.length - k = m → (fromR N k).filter (tog N a) ≠ [] →
    ev (q10b10a (iv (k : Int)) (nss N) (bsr (rbRows N)) (iv a) x (bvr c)) = some (1, [bvr (markR c ((fromR N k).filter (tog N a))), nS, nvs ((fromR N k).filter (tog N a)), x, nss N, bsr (rbRows N)])
  | 0, k, hm, hne => by
    rw [from_out (by omega)] at hne
    exact absurd rfl hne
  | m + 1, k, hm, hne => by
    have hkn : k < N.length := by omega
    have hk : (k : Int) < N.length := by omega
    have e0 := wr (n := k) (by omega)
    rw [c1] at e0
    have htg := tog_ev ha hkn
    have hck := come_at (c := c) (k := k) (by omega)
    have hset := fun kp => set_bvr (d := Res.fail) (kp := kp) (l := c) (x := true) (i := k) (by omega)
    rw [from_in hkn, List.filter_cons] at hne ⊢
    refine Evl.of ?_
    rw [h10b10a, g10b10a]
    cases h1 : tog N a k with
    | true =>
      rw [h1] at htg
      have ih := colc_n hb ha x m (k + 1) [k] (c.set k true) (by omega) (by simp) (by simp [hc])
      rw [c1] at ih
      have ih2 : Evl PG EE TT ⟨(q10b10c i0 i0 i0 i0 [] i0 i0).k, [iv ((k : Int) + 1), nss N, bsr (rbRows N), iv a, .rows [[iv (k : Int)]], x, bvr (c.set k true)]⟩ = _ := ih
      have hm2 : markR (c.set k true) ((fromR N (k + 1)).filter (tog N a)) = markR c (k :: (fromR N (k + 1)).filter (tog N a)) := rfl
      cases h2 : c.getD k false with
      | true =>
        rw [h2] at hck
        simp [hk, htg, idx_bvr hck, hset, e0, ih2, hm2]
      | false =>
        rw [h2] at hck
        simp [hk, htg, idx_bvr hck, hset, e0, ih2, hm2]
    | false =>
      rw [h1] at htg hne
      have ih := col_n hb ha x c hc m (k + 1) (by omega) hne
      rw [c1] at ih
      simp [hk, htg, e0, ih]

theorem stop_r {i : Nat} (o : List (List PV)) (x y : PV) (k : Nat) (c : List Bool) : ev (q10b8c (iv (k : Int)) (nss N) (bsr (rbRows N)) (iv i) o x y (bvr c)) = some (0, [bvr c, bf, iv i, nss N, bsr (rbRows N), (.rows o), x, y]) := Evl.of (by
  rw [h10b8c, g10b8c]
  by_cases h : (k : Int) < N.length
  · simp [h]
  · simp [h])
theorem all_r (hb : N.length ≤ 100000) {i : Nat} (hi : i < N.length) (o : List (List PV)) (x y : PV) (c : List Bool) (hc : c.length = N.length) : ∀ (m k : Nat), N.length - k = m →
    ev (q10b8d (iv (k : Int)) (nss N) (bsr (rbRows N)) (iv i) o x y (bvr c)) = some (0, [bvr c, bv ((fromR N k).all (okK N c i)), iv i, nss N, bsr (rbRows N), (.rows o), x, y])
  | 0, k, hm => by
    have hk : ¬ (k : Int) < N.length := by omega
    refine Evl.of ?_
    rw [h10b8d, g10b8d, from_out (by omega)]
    simp [hk]
  | m + 1, k, hm => by
    have hkn : k < N.length := by omega
    have hk : (k : Int) < N.length := by omega
    have ih := all_r hb hi o x y c hc m (k + 1) (by omega)
    have st := stop_r (N := N) (i := i) o x y (k + 1) c
    have e0 := wr (n := k) (by omega)
    rw [c1] at ih st e0
    have h1' := rb_at2 (N := N) (i := i) hkn
    have hck := come_at (c := c) (k := k) (by omega)
    have htg := tog_ev hi hkn
    refine Evl.of ?_
    rw [h10b8d, g10b8d, from_in hkn]
    cases h1 : RB N i k with
    | false =>
      rw [h1] at h1'
      simp [hk, idx_bsr (rb_at hi), idx_bvr h1', e0, ih, okK, h1]
    | true =>
      rw [h1] at h1'
      cases h2 : c.getD k false with
      | true =>
        rw [h2] at hck
        have ho : okK N c i k = true := by unfold okK; rw [h1, h2]; rfl
        simp [hk, idx_bsr (rb_at hi), idx_bvr h1', idx_bvr hck, e0, ih, ho]
      | false =>
        rw [h2] at hck
        cases h3 : tog N i k with
        | true =>
          rw [h3] at htg
          have ho : okK N c i k = true := by unfold okK; rw [h1, h2, h3]; rfl
          simp [hk, idx_bsr (rb_at hi), idx_bvr h1', idx_bvr hck, htg, e0, ih, ho]
        | false =>
          rw [h3] at htg
          have ho : okK N c i k = false := by unfold okK; rw [h1, h2, h3]; rfl
          simp [hk, idx_bsr (rb_at hi), idx_bvr h1', idx_bvr hck, htg, e0, st, ho]

theorem find_r (hb : N.length ≤ 100000) (o : List (List PV)) (x : PV) (c : List Bool) (hc : c.length = N.length) : ∀ (m i : Nat), N.length - i = m →
    ev (q10b6b (iv (i : Int)) (nss N) (iv (-1)) (bsr (rbRows N)) o x (bvr c)) = some (0, [bvr c, (eO ((fromR N i).find? (okR N c))), nss N, bsr (rbRows N), (.rows o), x])
  | 0, i, hm => by
    have hk : ¬ (i : Int) < N.length := by omega
    refine Evl.of ?_
    rw [h10b6b, g10b6b, from_out (by omega)]
    simp [hk, eO]
  | m + 1, i, hm => by
    have hin : i < N.length := by omega
    have hk : (i : Int) < N.length := by omega
    have ih := find_r hb o x c hc m (i + 1) (by omega)
    have fin : ev (q10b6b (iv ((i : Int) + 1)) (nss N) (iv (i : Int)) (bsr (rbRows N)) o x (bvr c)) = some (0, [bvr c, (iv (i : Int)), nss N, bsr (rbRows N), (.rows o), x]) := Evl.of (by
      have hneg : ¬ (i : Int) < 0 := by omega
      rw [h10b6b, g10b6b]
      by_cases h : (i : Int) + 1 < N.length
      · simp [h, hneg]
      · simp [h, hneg])
    have e0 := wr (n := i) (by omega)
    rw [c1] at ih e0
    have hci := come_at (c := c) (k := i) (by omega)
    have st := stop_r (N := N) (i := i) o x (iv (-1)) 0 c
    have al := all_r hb hin o x (iv (-1)) c hc N.length 0 (by omega)
    have hfr : fromR N 0 = List.range N.length := rfl
    rw [hfr] at al
    simp only [Int.natCast_zero, Int.ofNat_zero] at al st
    have hok : okR N c i = (!c.getD i false && (List.range N.length).all (okK N c i)) := rfl
    refine Evl.of ?_
    rw [h10b6b, g10b6b, from_in hin, List.find?_cons, hok]
    cases h1 : c.getD i false with
    | true =>
      rw [h1] at hci
      simp [hk, idx_bvr hci, st, e0, ih]
    | false =>
      rw [h1] at hci
      cases h2 : (List.range N.length).all (okK N c i) with
      | true =>
        rw [h2] at al
        simp [hk, idx_bvr hci, al, e0, fin, eO]
      | false =>
        rw [h2] at al
        simp [hk, idx_bvr hci, al, e0, ih]

theorem colc_r (hb : N.length ≤ 100000) {a : Nat} (ha : a < N.length) (o : List (List PV)) (x : PV) : ∀ (m k : Nat) (g : List Nat) (c : List Bool), N.length - k = m → g.length ≤ k → c.length = N.length →
    ev (q10b10d (iv (k : Int)) (nss N) (bsr (rbRows N)) (iv a) (g.map fun (q : Nat) => [eN q]) o x (bvr c)) = some (1, [bvr (markR c ((fromR N k).filter (tog N a))), (.rows o), nvs (g ++ (fromR N k).filter (tog N a)), x, nss N, bsr (rbRows N)])
  | 0, k, g, c, hm, hg, hc => by
    have hk : ¬ (k : Int) < N.length := by omega
    refine Evl.of ?_
    rw [h10b10d, g10b10d, from_out (by omega)]
    simp [hk, markR]
    rfl
  | m + 1, k, g, c, hm, hg, hc => by
    have hkn : k < N.length := by omega
    have hk : (k : Int) < N.length := by omega
    have e0 := wr (n := k) (by omega)
    rw [c1] at e0
    have htg := tog_ev ha hkn
    have hck := come_at (c := c) (k := k) (by omega)
    have hset := fun kp => set_bvr (d := Res.fail) (kp := kp) (l := c) (x := true) (i := k) (by omega)
    have hap := fun kp => app_nvs (d := Res.fail) (kp := kp) (l := g) (x := k) (by omega)
    refine Evl.of ?_
    rw [h10b10d, g10b10d, from_in hkn, List.filter_cons]
    cases h1 : tog N a k with
    | true =>
      rw [h1] at htg
      have ih := colc_r hb ha o x m (k + 1) (g ++ [k]) (c.set k true) (by omega) (by simp; omega) (by simp [hc])
      rw [c1] at ih
      have hgr : ∀ l : List Nat, PV.rows (l.map fun (q : Nat) => [eN q]) = nvs l := fun l => rfl
      have ih2 : Evl PG EE TT ⟨(q10b10d i0 i0 i0 i0 [] o i0 i0).k, [iv ((k : Int) + 1), nss N, bsr (rbRows N), iv a, nvs (g ++ [k]), .rows o, x, bvr (c.set k true)]⟩ = _ := ih
      have hm2 : markR (c.set k true) ((fromR N (k + 1)).filter (tog N a)) = markR c (k :: (fromR N (k + 1)).filter (tog N a)) := rfl
      cases h2 : c.getD k false with
      | true =>
        rw [h2] at hck
        simp [-List.map_append, hk, htg, hgr, hap, idx_bvr hck, hset, e0, ih2, hm2]
      | false =>
        rw [h2] at hck
        simp [-List.map_append, hk, htg, hgr, hap, idx_bvr hck, hset, e0, ih2, hm2]
    | false =>
      rw [h1] at htg
      have ih := colc_r hb ha o x m (k + 1) g c (by omega) (by omega) hc
      rw [c1] at ih
      simp [hk, htg, e0, ih]
theorem col_r (hb : N.length ≤ 100000) {a : Nat} (ha : a < N.length) (o : List (List PV)) (x : PV) (c : List Bool) (hc : c.length = N.length) : ∀ (m k : Nat), N.length - k = m → (fromR N k).filter (tog N a) ≠ [] →
    ev (q10b10b (iv (k : Int)) (nss N) (bsr (rbRows N)) (iv a) o x (bvr c)) = some (1, [bvr (markR c ((fromR N k).filter (tog N a))), (.rows o), nvs ((fromR N k).filter (tog N a)), x, nss N, bsr (rbRows N)])
  | 0, k, hm, hne => by
    rw [from_out (by omega)] at hne
    exact absurd rfl hne
  | m + 1, k, hm, hne => by
    have hkn : k < N.length := by omega
    have hk : (k : Int) < N.length := by omega
    have e0 := wr (n := k) (by omega)
    rw [c1] at e0
    have htg := tog_ev ha hkn
    have hck := come_at (c := c) (k := k) (by omega)
    have hset := fun kp => set_bvr (d := Res.fail) (kp := kp) (l := c) (x := true) (i := k) (by omega)
    rw [from_in hkn, List.filter_cons] at hne ⊢
    refine Evl.of ?_
    rw [h10b10b, g10b10b]
    cases h1 : tog N a k with
    | true =>
      rw [h1] at htg
      have ih := colc_r hb ha o x m (k + 1) [k] (c.set k true) (by omega) (by simp) (by simp [hc])
      rw [c1] at ih
      have ih2 : Evl PG EE TT ⟨(q10b10d i0 i0 i0 i0 [] o i0 i0).k, [iv ((k : Int) + 1), nss N, bsr (rbRows N), iv a, .rows [[iv (k : Int)]], .rows o, x, bvr (c.set k true)]⟩ = _ := ih
      have hm2 : markR (c.set k true) ((fromR N (k + 1)).filter (tog N a)) = markR c (k :: (fromR N (k + 1)).filter (tog N a)) := rfl
      cases h2 : c.getD k false with
      | true =>
        rw [h2] at hck
        simp [hk, htg, idx_bvr hck, hset, e0, ih2, hm2]
      | false =>
        rw [h2] at hck
        simp [hk, htg, idx_bvr hck, hset, e0, ih2, hm2]
    | false =>
      rw [h1] at htg hne
      have ih := col_r hb ha o x c hc m (k + 1) (by omega) hne
      rw [c1] at ih
      simp [hk, htg, e0, ih]

end

theorem tog_self (N : List (List Nat)) (a : Nat) : tog N a a = true := by unfold tog; simp
theorem pickR_lt {N : List (List Nat)} {c : List Bool} {a : Nat} (h : pickR N c = some a) : a < N.length := by
  unfold pickR at h
  rw [List.find?_range_eq_some] at h
  exact List.mem_range.1 h.2.1
theorem grpR_ne {N : List (List Nat)} {a : Nat} (ha : a < N.length) : grpR N a ≠ [] := fun e => by
  have : a ∈ grpR N a := grpR_mem.2 ⟨ha, tog_self N a⟩
  rw [e] at this; cases this
abbrev rw1 (o : List (List Nat)) : List (List PV) := o.map fun x => [nvs x]
theorem ref_r {N : List (List Nat)} (hb : N.length ≤ 100000) : ∀ (t i : Nat) (c : List Bool) (o : List (List Nat)), i + t = N.length → c.length = N.length → o.length ≤ i →
    ∃ c', ev (q10b4b (iv (i : Int)) (nss N) (bsr (rbRows N)) (rw1 o) (bvr c)) = some (1, [bvr c', nss (refF N t c o)])
  | 0, i, c, o, hi, hc, ho => by
    have hk : ¬ (i : Int) < N.length := by omega
    refine ⟨c, Evl.of ?_⟩
    rw [h10b4b, g10b4b]
    simp [hk, refF]
    rfl
  | t + 1, i, c, o, hi, hc, ho => by
    have hk : (i : Int) < N.length := by omega
    have e0 := wr (n := i) (by omega)
    rw [c1] at e0
    have hf := find_r hb (rw1 o) (iv (i : Int)) c hc N.length 0 (by omega)
    rw [show (fromR N 0).find? (okR N c) = pickR N c from rfl] at hf
    simp only [Int.natCast_zero, Int.ofNat_zero] at hf
    cases hp : pickR N c with
    | none =>
      rw [hp] at hf
      obtain ⟨c', ih⟩ := ref_r hb t (i + 1) c o (by omega) hc (by omega)
      rw [c1] at ih
      refine ⟨c', Evl.of ?_⟩
      rw [h10b4b, g10b4b, refF, hp]
      simp [hk, hf, eO, e0, ih]
    | some a =>
      rw [hp] at hf
      have ha := pickR_lt hp
      have hcol := col_r hb ha (rw1 o) (iv (i : Int)) c hc N.length 0 (by omega) (grpR_ne ha)
      rw [show (fromR N 0).filter (tog N a) = grpR N a from rfl] at hcol
      simp only [Int.natCast_zero, Int.ofNat_zero] at hcol
      obtain ⟨c', ih⟩ := ref_r hb t (i + 1) (markR c (grpR N a)) (o ++ [grpR N a]) (by omega) (by rw [markR_len]; exact hc) (by simp; omega)
      rw [c1] at ih
      have ih2 : Evl PG EE TT ⟨(q10b4b i0 i0 i0 [] i0).k, [iv ((i : Int) + 1), nss N, bsr (rbRows N), nss (o ++ [grpR N a]), bvr (markR c (grpR N a))]⟩ = _ := ih
      have hap := fun kp => app_nss (d := Res.fail) (kp := kp) (l := o) (x := grpR N a) (by omega)
      have hor : PV.rows (rw1 o) = nss o := rfl
      have hneg : ¬ (a : Int) < 0 := by omega
      refine ⟨c', Evl.of ?_⟩
      rw [h10b4b, g10b4b, refF, hp]
      have hf2 : Evl PG EE TT ⟨(q10b6b i0 i0 i0 i0 [] i0 i0).k, [i0, nss N, iv (-1), bsr (rbRows N), nss o, iv (i : Int), bvr c]⟩ = _ := hf
      have hcol2 : Evl PG EE TT ⟨(q10b10b i0 i0 i0 i0 [] i0 i0).k, [i0, nss N, bsr (rbRows N), iv (a : Int), nss o, iv (i : Int), bvr c]⟩ = _ := hcol
      rw [hor] at hf2 hcol2
      simp [-List.map_append, hk, hf2, eO, hcol2, e0, ih2, hor, hap]
theorem ref_n {N : List (List Nat)} (hb : N.length ≤ 100000) : ∀ (t i : Nat) (c : List Bool), i + t = N.length → c.length = N.length →
    ∃ c', ev (q10b4a (iv (i : Int)) (nss N) (bsr (rbRows N)) (bvr c)) = some (if refF N t c [] = [] then (0, [bvr c', nS]) else (1, [bvr c', nss (refF N t c [])]))
  | 0, i, c, hi, hc => by
    have hk : ¬ (i : Int) < N.length := by omega
    refine ⟨c, Evl.of ?_⟩
    rw [h10b4a, g10b4a]
    simp [hk, refF]
  | t + 1, i, c, hi, hc => by
    have hk : (i : Int) < N.length := by omega
    have e0 := wr (n := i) (by omega)
    rw [c1] at e0
    have hf := find_n hb (iv (i : Int)) c hc N.length 0 (by omega)
    rw [show (fromR N 0).find? (okR N c) = pickR N c from rfl] at hf
    simp only [Int.natCast_zero, Int.ofNat_zero] at hf
    cases hp : pickR N c with
    | none =>
      rw [hp] at hf
      obtain ⟨c', ih⟩ := ref_n hb t (i + 1) c (by omega) hc
      rw [c1] at ih
      refine ⟨c', Evl.of ?_⟩
      rw [h10b4a, g10b4a, refF, hp]
      simp [hk, hf, eO, e0, ih]
    | some a =>
      rw [hp] at hf
      have ha := pickR_lt hp
      have hcol := col_n hb ha (iv (i : Int)) c hc N.length 0 (by omega) (grpR_ne ha)
      rw [show (fromR N 0).filter (tog N a) = grpR N a from rfl] at hcol
      simp only [Int.natCast_zero, Int.ofNat_zero] at hcol
      obtain ⟨c', ih⟩ := ref_r hb t (i + 1) (markR c (grpR N a)) [grpR N a] (by omega) (by rw [markR_len]; exact hc) (by simp)
      rw [c1] at ih
      have ih2 : Evl PG EE TT ⟨(q10b4b i0 i0 i0 [] i0).k, [iv ((i : Int) + 1), nss N, bsr (rbRows N), .rows [[nvs (grpR N a)]], bvr (markR c (grpR N a))]⟩ = _ := ih
      have hneg : ¬ (a : Int) < 0 := by omega
      have hgrow : ∀ (t : Nat) (c : List Bool) (o : List (List Nat)), o ≠ [] → refF N t c o ≠ [] := by
        intro t
        induction t with
        | zero => intro c o h; exact h
        | succ t iht =>
          intro c o h
          rw [refF]
          split
          · exact iht _ _ h
          · exact iht _ _ (by simp)
      have hne := hgrow t (markR c (grpR N a)) [grpR N a] (by simp)
      refine ⟨c', Evl.of ?_⟩
      rw [h10b4a, g10b4a, refF, hp]
      simp [hk, hf, eO, hcol, e0, ih2, hne]
/-! 'ready'. -/
section
variable {N : List (List Nat)} {s : St}
theorem need_at (hB : Bnd N) {x : Nat} (hx : x < N.length) : N[x]? = some (nd N x) ∧ (nd N x).length ≤ 1000000000 := ⟨nrow_at hx, hB.row _ (List.mem_of_getElem? (nrow_at hx))⟩
theorem gof_at {N : List (List Nat)} {s : St} (h : Done N s) {x : Nat} (hx : x < N.length) : s.of[x]? = some (some (gi s x)) := by
  rw [← gof_gi h hx]
  exact at_ofO rfl (by rw [h.inv.wf.o]; exact hx)
/-- Is this need no hindrance? -/
def rdK (s : St) (c : List Bool) (i k : Nat) : Bool := decide (gof s k = gof s i) || c.getD (gi s k) false
theorem rd_in (hB : Bnd N) (h : Done N s) {x : Nat} (hx : x < N.length) (c : List Bool) (hc : c.length = s.grp.length) (met low stk : PV) (e f g : PV) : ∀ (m : List Nat) (j : Nat), (nd N x).drop j = m →
    ev (q29bb2a (iv (j : Int)) (iv (nd N x).length) (nvs (nd N x)) (iv x) e f g (nss N) met low (ovs s.of) stk (nss s.grp) (bvr c)) = some (if m.all (rdK s c x) = true then (1, [nss N, met, low, ovs s.of, stk, nss s.grp, bvr c, e, f, g]) else (0, [nss N, met, low, ovs s.of, stk, nss s.grp, bvr c, bf]))
  | [], j, hd => by
    have hj : ¬ (j : Int) < (nd N x).length := by have := congrArg List.length hd; simp at this; simp; omega
    refine Evl.of ?_
    rw [h29bb2a, g29bb2a]
    generalize nd N x = row at *
    simp [hj]
  | k :: m, j, hd => by
    have hkx : (nd N x)[j]? = some k := by have := congrArg List.head? hd; rwa [List.head?_drop] at this
    have hj0 := (List.getElem?_eq_some_iff.1 hkx).1
    have hj : (j : Int) < (nd N x).length := by omega
    have hd' : (nd N x).drop (j + 1) = m := by rw [← List.drop_drop, hd]; rfl
    have hkN : k < N.length := hB.rng.at x k (List.mem_of_getElem? hkx)
    have ih := rd_in hB h hx c hc met low stk e f g m (j + 1) hd'
    have e0 := wr (n := j) (by have := (need_at hB hx).2; omega)
    rw [c1] at ih e0
    have ho1 := gof_at h hkN
    have ho2 := gof_at h hx
    have hck := come_at (c := c) (k := gi s k) (by rw [hc]; exact gi_lt h hkN)
    refine Evl.of ?_
    rw [h29bb2a, g29bb2a]
    by_cases he : gi s k = gi s x
    · have hr : rdK s c x k = true := by unfold rdK; rw [gof_gi h hkN, gof_gi h hx, he]; simp
      generalize nd N x = row at *
      simp [hj, idx_nvs hkx, idx_ovs ho1, idx_ovs ho2, eO, he, e0, ih, hr]
    · have hr : rdK s c x k = c.getD (gi s k) false := by
        unfold rdK
        rw [gof_gi h hkN, gof_gi h hx]
        simp [he]
      have he' : ¬ (gi s k : Int) = gi s x := by omega
      generalize nd N x = row at *
      cases hcc : c.getD (gi s k) false with
      | true =>
        rw [hcc] at hck hr
        simp [hj, idx_nvs hkx, idx_ovs ho1, idx_ovs ho2, eO, he, he', idx_bvr hck, e0, ih, hr]
      | false =>
        rw [hcc] at hck hr
        simp [hj, idx_nvs hkx, idx_ovs ho1, idx_ovs ho2, eO, he, he', idx_bvr hck, e0, ih, hr]
theorem rd_out (hB : Bnd N) (h : Done N s) (c : List Bool) (hc : c.length = s.grp.length) (met low stk : PV) (gr : List Nat) (hg : ∀ x ∈ gr, x < N.length) (hgl : gr.length ≤ 1000000000) : ∀ (m : List Nat) (j : Nat), gr.drop j = m →
    ev (q29bb0a (iv (j : Int)) (iv gr.length) (nvs gr) (nss N) met low (ovs s.of) stk (nss s.grp) (bvr c)) = some (if (m.all fun i => (nd N i).all (rdK s c i)) = true then (1, [nss N, met, low, ovs s.of, stk, nss s.grp, bvr c]) else (0, [nss N, met, low, ovs s.of, stk, nss s.grp, bvr c, bf]))
  | [], j, hd => by
    have hj : ¬ (j : Int) < gr.length := by have := congrArg List.length hd; simp at this; omega
    refine Evl.of ?_
    rw [h29bb0a, g29bb0a]
    simp [hj]
  | x :: m, j, hd => by
    have hxx : gr[j]? = some x := by have := congrArg List.head? hd; rwa [List.head?_drop] at this
    have hj : (j : Int) < gr.length := by have := (List.getElem?_eq_some_iff.1 hxx).1; omega
    have hd' : gr.drop (j + 1) = m := by rw [← List.drop_drop, hd]; rfl
    have hx := hg x (List.mem_of_getElem? hxx)
    have ih := rd_out hB h c hc met low stk gr hg hgl m (j + 1) hd'
    have e0 := wr (n := j) (by omega)
    rw [c1] at ih e0
    have hin := rd_in hB h hx c hc met low stk (iv (j : Int)) (iv gr.length) (nvs gr) (nd N x) 0 rfl
    simp only [Int.natCast_zero, Int.ofNat_zero] at hin
    have hrow := (need_at hB hx).1
    refine Evl.of ?_
    rw [h29bb0a, g29bb0a, List.all_cons]
    generalize (nd N x).all (rdK s c x) = b at hin
    generalize nd N x = row at *
    cases b with
    | true =>
      rw [if_pos rfl] at hin
      simp [hj, idx_nvs hxx, idx_nss hrow, hin, e0, ih]
    | false =>
      rw [if_neg (by simp)] at hin
      simp [hj, idx_nvs hxx, idx_nss hrow, hin, e0, ih]
theorem ready_ev (hB : Bnd N) (h : Done N s) (c : List Bool) (hc : c.length = s.grp.length) (met low stk : PV) (gr : List Nat) (hg : ∀ x ∈ gr, x < N.length) (hgl : gr.length ≤ 1000000000) :
    ev (q29b (nvs gr) (nss N) met low (ovs s.of) stk (nss s.grp) (bvr c)) = some (0, [nss N, met, low, ovs s.of, stk, nss s.grp, bvr c, bv (readyF N s c gr)]) := Evl.of (by
  have h1 := rd_out hB h c hc met low stk gr hg hgl gr 0 rfl
  have hr : readyF N s c gr = gr.all fun i => (nd N i).all (rdK s c i) := rfl
  simp only [Int.natCast_zero, Int.ofNat_zero] at h1
  rw [h29b, g29b, hr]
  generalize (gr.all fun i => (nd N i).all (rdK s c i)) = b at h1
  cases b with
  | true => rw [if_pos rfl] at h1; simp [h1]
  | false => rw [if_neg (by simp)] at h1; simp [h1])
end

theorem sorted_len {n : Nat} : ∀ (l : List Nat) (lo : Nat), l.Pairwise (· < ·) → (∀ x ∈ l, lo ≤ x ∧ x < n) → lo ≤ n → l.length + lo ≤ n
  | [], lo, _, _, h => by simpa using h
  | a :: l, lo, hp, hm, h => by
    obtain ⟨h1, h2⟩ := List.pairwise_cons.1 hp
    obtain ⟨h3, h4⟩ := hm a (List.mem_cons_self ..)
    have := sorted_len l (a + 1) h2 (fun x hx => ⟨h1 x hx, (hm x (List.mem_cons_of_mem _ hx)).2⟩) (by omega)
    simp
    omega
section
variable {N : List (List Nat)} {s : St}
theorem gat_idx {j : Nat} (hj : j < s.grp.length) : s.grp[j]? = some (gat s j) := gat_some hj
theorem hd_idx (h : Done N s) {j : Nat} (hj : j < s.grp.length) : (gat s j)[0]? = some (hdG (gat s j)) := by
  obtain ⟨h1, _, _⟩ := h.inv.gs j _ (gat_some hj)
  cases hg : gat s j with
  | nil => exact absurd hg h1
  | cons a l => rfl
theorem gat_lt (h : Done N s) {j : Nat} (hj : j < s.grp.length) : ∀ x ∈ gat s j, x < N.length := fun x hx => ((gat_mem h hj).1 hx).1
theorem gat_len (hB : Bnd N) (h : Done N s) {j : Nat} (hj : j < s.grp.length) : (gat s j).length ≤ 1000000000 := by
  obtain ⟨_, h2, _⟩ := h.inv.gs j _ (gat_some hj)
  have h3 := sorted_len (n := N.length) (gat s j) 0 h2 (fun x hx => ⟨Nat.zero_le _, gat_lt h hj x hx⟩) (Nat.zero_le _)
  have := hB.len
  omega
def ST6 (N : List (List Nat)) (s : St) : List PV := [nss N, nvs s.met, nvs s.low, ovs s.of, nvs s.stk, nss s.grp]

theorem pick_a (hB : Bnd N) (h : Done N s) (c : List Bool) (hc : c.length = s.grp.length) : ∀ (m i : Nat), N.length - i = m →
    ev (q18db2a (iv (i : Int)) (iv N.length) (nss N) (nvs s.met) (nvs s.low) (ovs s.of) (nvs s.stk) (nss s.grp) (bvr c)) = some (match (fromR N i).find? (okP N s c) with | some a => (2, [nss N, nvs s.met, nvs s.low, ovs s.of, nvs s.stk, nss s.grp, bvr (c.set (gi s a) true), nss ([gat s (gi s a)])]) | none => (3, [nss N, nvs s.met, nvs s.low, ovs s.of, nvs s.stk, nss s.grp, bvr c, nS]))
  | 0, i, hm => by
    have hk : ¬ (i : Int) < N.length := by omega
    refine Evl.of ?_
    rw [h18db2a, g18db2a, from_out (by omega)]
    simp [hk]
  | m + 1, i, hm => by
    have hin : i < N.length := by omega
    have hk : (i : Int) < N.length := by omega
    have hbl := hB.len
    have ih := pick_a hB h c hc m (i + 1) (by omega)
    have e0 := wr (n := i) (by omega)
    rw [c1] at ih e0
    have hof := gof_at h hin
    have hgl := gi_lt h hin
    have hck := come_at (c := c) (k := gi s i) (by rw [hc]; exact hgl)
    have hga := gat_idx hgl
    have hhd := hd_idx h hgl
    have hrd := ready_ev hB h c hc (nvs s.met) (nvs s.low) (nvs s.stk) (gat s (gi s i)) (gat_lt h hgl) (gat_len hB h hgl)
    have hset := fun kp => set_bvr (d := Res.fail) (kp := kp) (l := c) (x := true) (i := gi s i) (by rw [hc]; exact hgl)
    have hap := fun kp => apn_nss (d := Res.fail) (kp := kp) (x := gat s (gi s i))
    have hi0 := fun k => idx_nvs (d := Res.fail) (k := k) hhd
    simp only [Int.natCast_zero, Int.ofNat_zero] at hi0
    refine Evl.of ?_
    rw [h18db2a, g18db2a, from_in hin, List.find?_cons]
    have hok : okP N s c i = (!c.getD (gi s i) false && (decide (hdG (gat s (gi s i)) = i) && readyF N s c (gat s (gi s i)))) := rfl
    rw [hok]
    cases h1 : c.getD (gi s i) false with
    | true =>
      rw [h1] at hck
      simp [hk, idx_ovs hof, eO, idx_bvr hck, e0, ih]
    | false =>
      rw [h1] at hck
      by_cases h2 : hdG (gat s (gi s i)) = i
      · have h2' : (hdG (gat s (gi s i)) : Int) = i := by omega
        cases h3 : readyF N s c (gat s (gi s i)) with
        | true =>
          rw [h3] at hrd
          simp [hk, idx_ovs hof, eO, idx_bvr hck, idx_nss hga, hi0, h2, hrd, hset, hap]
        | false =>
          rw [h3] at hrd
          simp [hk, idx_ovs hof, eO, idx_bvr hck, idx_nss hga, hi0, h2, hrd, e0, ih]
      · have h2' : ¬ (hdG (gat s (gi s i)) : Int) = i := by omega
        simp [hk, idx_ovs hof, eO, idx_bvr hck, idx_nss hga, hi0, h2, h2', e0, ih]

theorem pick_b (hB : Bnd N) (h : Done N s) (c : List Bool) (hc : c.length = s.grp.length) (o : List (List Nat)) (ho : o.length ≤ 1000000) : ∀ (m i : Nat), N.length - i = m →
    ev (q18db2b (iv (i : Int)) (iv N.length) (nss N) (nvs s.met) (nvs s.low) (ovs s.of) (nvs s.stk) (nss s.grp) (bvr c) (nss o)) = some (match (fromR N i).find? (okP N s c) with | some a => (0, [nss N, nvs s.met, nvs s.low, ovs s.of, nvs s.stk, nss s.grp, bvr (c.set (gi s a) true), nss (o ++ [gat s (gi s a)])]) | none => (1, [nss N, nvs s.met, nvs s.low, ovs s.of, nvs s.stk, nss s.grp, bvr c, nss o]))
  | 0, i, hm => by
    have hk : ¬ (i : Int) < N.length := by omega
    refine Evl.of ?_
    rw [h18db2b, g18db2b, from_out (by omega)]
    simp [hk]
  | m + 1, i, hm => by
    have hin : i < N.length := by omega
    have hk : (i : Int) < N.length := by omega
    have hbl := hB.len
    have ih := pick_b hB h c hc o ho m (i + 1) (by omega)
    have e0 := wr (n := i) (by omega)
    rw [c1] at ih e0
    have hof := gof_at h hin
    have hgl := gi_lt h hin
    have hck := come_at (c := c) (k := gi s i) (by rw [hc]; exact hgl)
    have hga := gat_idx hgl
    have hhd := hd_idx h hgl
    have hrd := ready_ev hB h c hc (nvs s.met) (nvs s.low) (nvs s.stk) (gat s (gi s i)) (gat_lt h hgl) (gat_len hB h hgl)
    have hset := fun kp => set_bvr (d := Res.fail) (kp := kp) (l := c) (x := true) (i := gi s i) (by rw [hc]; exact hgl)
    have hap := fun kp => app_nss (d := Res.fail) (kp := kp) (l := o) (x := gat s (gi s i)) (by omega)
    have hi0 := fun k => idx_nvs (d := Res.fail) (k := k) hhd
    simp only [Int.natCast_zero, Int.ofNat_zero] at hi0
    refine Evl.of ?_
    rw [h18db2b, g18db2b, from_in hin, List.find?_cons]
    have hok : okP N s c i = (!c.getD (gi s i) false && (decide (hdG (gat s (gi s i)) = i) && readyF N s c (gat s (gi s i)))) := rfl
    rw [hok]
    cases h1 : c.getD (gi s i) false with
    | true =>
      rw [h1] at hck
      simp [hk, idx_ovs hof, eO, idx_bvr hck, e0, ih]
    | false =>
      rw [h1] at hck
      by_cases h2 : hdG (gat s (gi s i)) = i
      · have h2' : (hdG (gat s (gi s i)) : Int) = i := by omega
        cases h3 : readyF N s c (gat s (gi s i)) with
        | true =>
          rw [h3] at hrd
          simp [hk, idx_ovs hof, eO, idx_bvr hck, idx_nss hga, hi0, h2, hrd, hset, hap]
        | false =>
          rw [h3] at hrd
          simp [hk, idx_ovs hof, eO, idx_bvr hck, idx_nss hga, hi0, h2, hrd, e0, ih]
      · have h2' : ¬ (hdG (gat s (gi s i)) : Int) = i := by omega
        simp [hk, idx_ovs hof, eO, idx_bvr hck, idx_nss hga, hi0, h2, h2', e0, ih]

theorem pickP_lt {c : List Bool} {i : Nat} (hp : pickP N s c = some i) : i < N.length := by
  unfold pickP at hp
  rw [List.find?_range_eq_some] at hp
  exact List.mem_range.1 hp.2.1
theorem ord_b (hB : Bnd N) (h : Done N s) (hgl : s.grp.length ≤ 100000) : ∀ (m : Nat) (c : List Bool) (o out : List (List Nat)), o.length + m = s.grp.length → c.length = s.grp.length → ordF N s m c o = some out →
    ∃ c', ev (q18db0b (nss N) (nvs s.met) (nvs s.low) (ovs s.of) (nvs s.stk) (nss s.grp) (bvr c) (nss o)) = some (1, [nss N, nvs s.met, nvs s.low, ovs s.of, nvs s.stk, nss s.grp, bvr c', nss out])
  | 0, c, o, out, hm, hc, ho => by
    have hk : ¬ (o.length : Int) < s.grp.length := by omega
    rw [ordF] at ho
    cases ho
    refine ⟨c, Evl.of ?_⟩
    rw [h18db0b, g18db0b]
    simp [hk]
  | m + 1, c, o, out, hm, hc, ho => by
    have hk : (o.length : Int) < s.grp.length := by omega
    rw [ordF] at ho
    have hp := pick_b hB h c hc o (by omega) N.length 0 (by omega)
    rw [show (fromR N 0).find? (okP N s c) = pickP N s c from rfl] at hp
    simp only [Int.natCast_zero, Int.ofNat_zero] at hp
    cases hpk : pickP N s c with
    | none => rw [hpk] at ho; cases ho
    | some i =>
      rw [hpk] at ho hp
      obtain ⟨c', ih⟩ := ord_b hB h hgl m (c.set (gi s i) true) (o ++ [gat s (gi s i)]) out (by simp; omega) (by simp [hc]) ho
      refine ⟨c', Evl.of ?_⟩
      rw [h18db0b, g18db0b]
      simp [hk, hp, ih]
theorem ord_a (hB : Bnd N) (h : Done N s) (hgl : s.grp.length ≤ 100000) (hne : s.grp ≠ []) (c : List Bool) (out : List (List Nat)) (hc : c.length = s.grp.length) (ho : ordF N s s.grp.length c [] = some out) :
    ∃ c', ev (q18db0a (nss N) (nvs s.met) (nvs s.low) (ovs s.of) (nvs s.stk) (nss s.grp) (bvr c)) = some (1, [nss N, nvs s.met, nvs s.low, ovs s.of, nvs s.stk, nss s.grp, bvr c', nss out]) := by
  have hl : 0 < s.grp.length := List.length_pos_iff.2 hne
  have hk : (0 : Int) < s.grp.length := by omega
  obtain ⟨m, hm⟩ : ∃ m, s.grp.length = m + 1 := ⟨s.grp.length - 1, by omega⟩
  have hp := pick_a hB h c hc N.length 0 (by omega)
  rw [show (fromR N 0).find? (okP N s c) = pickP N s c from rfl] at hp
  simp only [Int.natCast_zero, Int.ofNat_zero] at hp
  rw [hm, ordF] at ho
  cases hpk : pickP N s c with
  | none => rw [hpk] at ho; cases ho
  | some i =>
    rw [hpk] at ho hp
    obtain ⟨c', ih⟩ := ord_b hB h hgl m (c.set (gi s i) true) [gat s (gi s i)] out (by simp; omega) (by simp [hc]) ho
    refine ⟨c', Evl.of ?_⟩
    rw [h18db0a, g18db0a]
    simp [hl, hk, hp, ih]
theorem order_ev (hB : Bnd N) (h : Done N s) (hne : s.grp ≠ []) : ev (q18d (nss N) (nvs s.met) (nvs s.low) (ovs s.of) (nvs s.stk) (nss s.grp)) = some (0, [nss N, nvs s.met, nvs s.low, ovs s.of, nvs s.stk, nss s.grp, nss (groupsR N)]) := by
  have hgl := (stk_le hB h.inv.wf).2.1
  obtain ⟨c', h1⟩ := ord_a hB h hgl hne (List.replicate s.grp.length false) (groupsR N) (by simp) (groups_eq hB.rng h)
  have hmk := fun kp => mk_bvr (d := Res.fail) (kp := kp) (n := s.grp.length) (by omega)
  refine Evl.of ?_
  rw [h18d, g18d]
  simp [hmk, h1]
/-! All things are visited. -/
theorem loopP_cons (F i : Nat) (is : List Nat) (s : St) : loopP N F (i :: is) s = if mt s i = 0 then (match visF N F i s with | none => none | some s' => loopP N F is s') else loopP N F is s := rfl
theorem parts_d (hB : Bnd N) (F : Nat) : ∀ (t i : Nat) (s s' : St), i + t = N.length → WF N s → s.grp ≠ [] → loopP N F (fromR N i) s = some s' →
    ev (q17ab0d (iv (i : Int)) (iv N.length) (nss N) (nvs s.met) (nvs s.low) (ovs s.of) (iv s.n) (nvs s.stk) (nss s.grp)) = some (3, [nss N, nvs s'.met, nvs s'.low, ovs s'.of, iv s'.n, nvs s'.stk, nss s'.grp])
  | 0, i, s, s', hi, hw, hg, h => by
    have hk : ¬ (i : Int) < N.length := by omega
    rw [from_out (by omega), loopP] at h
    cases h
    refine Evl.of ?_
    rw [h17ab0d, g17ab0d]
    simp [hk]
  | t + 1, i, s, s', hi, hw, hg, h => by
    have hin : i < N.length := by omega
    have hk : (i : Int) < N.length := by omega
    have hbl := hB.len
    have e0 := wr (n := i) (by omega)
    rw [c1] at e0
    rw [from_in hin, loopP_cons] at h
    have V := vis_ok hB F
    by_cases h0 : mt s i = 0
    · rw [if_pos h0] at h
      have hm : s.met[i]? = some 0 := at_of h0 (by rw [hw.m]; exact hin)
      split at h
      · cases h
      · rename_i s1 h1
        obtain ⟨hw1, hk1, _⟩ := V.keep i s s1 hin hw h0 h1
        have hd := V.d i s s1 hin hw h0 h1 hg
        have ih := parts_d hB F t (i + 1) s1 s' (by omega) hw1 (grp_ne hk1 hg) h
        rw [c1] at ih
        refine Evl.of ?_
        rw [h17ab0d, g17ab0d]
        by_cases hs : s1.grp = s.grp
        · rw [ansD, if_pos hs] at hd
          rw [hs] at hd ih
          simp [hk, idx_nvs hm, hd, e0, ih]
        · rw [ansD, if_neg hs] at hd
          simp [hk, idx_nvs hm, hd, e0, ih]
    · rw [if_neg h0] at h
      have hm : s.met[i]? = some (mt s i) := at_of rfl (by rw [hw.m]; exact hin)
      have ih := parts_d hB F t (i + 1) s s' (by omega) hw hg h
      rw [c1] at ih
      refine Evl.of ?_
      rw [h17ab0d, g17ab0d]
      simp [hk, idx_nvs hm, h0, e0, ih]
theorem parts_ev (hB : Bnd N) (hN : N ≠ []) {s : St} (h : loopP N N.length (List.range N.length) (startS N) = some s) : ev (q17a (nss N) (nvs (startS N).met) (nvs (startS N).low) (ovs (startS N).of)) = some (3, [nss N, nvs s.met, nvs s.low, ovs s.of, nvs s.stk, nss s.grp]) := by
  have hl : 0 < N.length := List.length_pos_iff.2 hN
  have hk : (0 : Int) < N.length := by omega
  have hfr : List.range N.length = fromR N 0 := rfl
  have h0 : mt (startS N) 0 = 0 := getD_rep _ _ _ rfl 0
  have hm : (startS N).met[0]? = some 0 := at_of h0 (by rw [(start_wf N).m]; exact hl)
  have hm0 := fun k => idx_nvs (d := Res.fail) (k := k) hm
  simp only [Int.natCast_zero, Int.ofNat_zero] at hm0
  rw [hfr, from_in hl, loopP_cons, if_pos h0] at h
  have hc : (startS N).met.count 0 ≤ N.length := by rw [← (start_wf N).m]; exact List.count_le_length
  obtain ⟨s1, e1, p⟩ := vis_inv hB.rng N.length 0 (startS N) [] (start_inv N) hl h0 (fun g hg => by cases hg) hc
  rw [e1] at h
  have hne : s1.grp ≠ [] := fun e => by
    have hmt : mt s1 0 ≠ 0 := by rw [p.met]; omega
    have hst := p.inv.bare
    cases hg : gof s1 0 with
    | none =>
      have := (p.inv.on 0).2 ⟨hmt, hg⟩
      rw [hst] at this; cases this
    | some j =>
      have := p.inv.dl 0 j hg
      rw [e] at this
      exact Nat.not_lt_zero _ this
  have ha := vis_a' hB hl (start_wf N) h0 e1 rfl rfl
  rw [ansC, if_neg hne] at ha
  have hd := parts_d hB N.length (N.length - 1) 1 s1 s (by omega) p.inv.wf hne h
  have e0 : IntKind.i64.wrap 1 = 1 := by decide
  have hn0 : ((startS N).n : Int) = 0 := rfl
  rw [hn0] at ha
  simp only [Int.natCast_zero, Int.ofNat_zero, Int.natCast_one] at ha hd
  have hla : ev (q17ab0a (iv 0) (iv N.length) (nss N) (nvs (startS N).met) (nvs (startS N).low) (ovs (startS N).of) (iv 0)) = some (3, [nss N, nvs s.met, nvs s.low, ovs s.of, iv s.n, nvs s.stk, nss s.grp]) := Evl.of (by
    rw [h17ab0a, g17ab0a]
    simp [hl, hk, hm0, ha, e0, hd])
  refine Evl.of ?_
  rw [h17a, g17a]
  simp [hla]
end

/-! Are all needs things? -/
def okRow (n : Nat) (r : List Int) : Bool := r.all fun k => decide (0 ≤ k) && decide (k < (n : Int))
structure Sml (l : List (List Int)) : Prop where
  len : l.length ≤ 100000
  row : ∀ r ∈ l, r.length ≤ 1000000000
theorem chk_row (n : Nat) (r : List Int) (hr : r.length ≤ 1000000000) (y z u w : PV) : ∀ (m : List Int) (j : Nat), r.drop j = m →
    ev (q9b2a (iv (j : Int)) (iv r.length) (zvs r) (iv n) y z u w) = some (if okRow n m = true then (1, [y, z, u, iv n, w]) else (0, [nS, iv 2]))
  | [], j, hd => by
    have hj : ¬ (j : Int) < r.length := by have := congrArg List.length hd; simp at this; omega
    refine Evl.of ?_
    rw [h9b2a, g9b2a]
    simp [hj, okRow]
  | k :: m, j, hd => by
    have hx : r[j]? = some k := by have := congrArg List.head? hd; rwa [List.head?_drop] at this
    have hj : (j : Int) < r.length := by have := (List.getElem?_eq_some_iff.1 hx).1; omega
    have hd' : r.drop (j + 1) = m := by rw [← List.drop_drop, hd]; rfl
    have ih := chk_row n r hr y z u w m (j + 1) hd'
    have e0 := wr (n := j) (by omega)
    rw [c1] at ih e0
    have ho : okRow n (k :: m) = (decide (0 ≤ k) && decide (k < (n : Int)) && okRow n m) := rfl
    refine Evl.of ?_
    rw [h9b2a, g9b2a, ho]
    by_cases h1 : k < 0
    · have h1' : ¬ 0 ≤ k := by omega
      simp [hj, idx_zvs hx, h1, h1']
    · have h1' : 0 ≤ k := by omega
      by_cases h2 : k < (n : Int)
      · have h2' : ¬ (n : Int) ≤ k := by omega
        simp [hj, idx_zvs hx, h1, h1', h2, h2', e0, ih]
      · have h2' : (n : Int) ≤ k := by omega
        simp [hj, idx_zvs hx, h1, h1', h2, h2']
theorem chk_all (l : List (List Int)) (hs : Sml l) : ∀ (m : List (List Int)) (i : Nat), l.drop i = m →
    ev (q9b0a (iv (i : Int)) (iv l.length) (zss l) (iv l.length) (zss l)) = some (if (m.all (okRow l.length)) = true then (1, [zss l, iv l.length]) else (0, [nS, iv 2]))
  | [], i, hd => by
    have hj : ¬ (i : Int) < l.length := by have := congrArg List.length hd; simp at this; omega
    refine Evl.of ?_
    rw [h9b0a, g9b0a]
    simp [hj]
  | r :: m, i, hd => by
    have hx : l[i]? = some r := by have := congrArg List.head? hd; rwa [List.head?_drop] at this
    have hj : (i : Int) < l.length := by have := (List.getElem?_eq_some_iff.1 hx).1; omega
    have hd' : l.drop (i + 1) = m := by rw [← List.drop_drop, hd]; rfl
    have ih := chk_all l hs m (i + 1) hd'
    have hl := hs.len
    have e0 := wr (n := i) (by omega)
    rw [c1] at ih e0
    have h1 := chk_row l.length r (hs.row r (List.mem_of_getElem? hx)) (iv (i : Int)) (iv l.length) (zss l) (zss l) r 0 rfl
    simp only [Int.natCast_zero, Int.ofNat_zero] at h1
    refine Evl.of ?_
    rw [h9b0a, g9b0a, List.all_cons]
    cases hb : okRow l.length r with
    | true =>
      rw [if_pos hb] at h1
      simp [hj, idx_zss hx, h1, e0, ih]
    | false =>
      rw [if_neg (by rw [hb]; simp)] at h1
      simp [hj, idx_zss hx, h1]
/-! The rows of groups are told to be none. -/
theorem fill_ev (met low : PV) (nds : PV) (n : Nat) (hn : n ≤ 100000) : ∀ (m i : Nat), i + m = n →
    ev (q9b4a (iv (i : Int)) (iv n) nds met low (zvs (List.replicate i (-1) ++ List.replicate m 0))) = some (0, [nds, nS, nS, met, low, zvs (List.replicate n (-1))])
  | 0, i, hi => by
    have hk : ¬ (i : Int) < n := by omega
    have : i = n := by omega
    subst this
    refine Evl.of ?_
    rw [h9b4a, g9b4a]
    simp [hk]
  | m + 1, i, hi => by
    have hk : (i : Int) < n := by omega
    have e0 := wr (n := i) (by omega)
    have ih := fill_ev met low nds n hn m (i + 1) (by omega)
    rw [c1] at ih e0
    have hx : (List.replicate i (-1 : Int) ++ List.replicate (m + 1) 0)[i]? = some 0 := by
      rw [List.getElem?_append_right (by simp)]; simp
    have hset := fun kp => setK_r1 (d := Res.fail) (k := kp) (e := iv) iv_ns (l := List.replicate i (-1 : Int) ++ List.replicate (m + 1) 0) (i := i) (x := -1) (by simp)
    have hs2 : (List.replicate i (-1 : Int) ++ List.replicate (m + 1) 0).set i (-1) = List.replicate (i + 1) (-1) ++ List.replicate m 0 := by
      rw [List.set_append_right _ _ (by simp)]
      simp [List.replicate_succ, List.replicate_succ', List.append_assoc]
      have : ∀ (i : Nat) (l : List Int), List.replicate i (-1 : Int) ++ (-1 :: l) = -1 :: (List.replicate i (-1) ++ l) := by
        intro i
        induction i with
        | zero => intro l; rfl
        | succ i ih => intro l; rw [List.replicate_succ, List.cons_append, ih]; rfl
      rw [this]
    rw [hs2] at hset
    refine Evl.of ?_
    rw [h9b4a, g9b4a]
    generalize List.replicate i (-1 : Int) ++ List.replicate (m + 1) 0 = row at *
    generalize List.replicate (i + 1) (-1 : Int) ++ List.replicate m 0 = row2 at *
    simp only [← zvs_eq] at hset
    simp [hk, idx_zvs hx, hset, e0, ih]
theorem ovs_none (n : Nat) : zvs (List.replicate n (-1)) = ovs (List.replicate n none) := by
  unfold zvs ivs ovs r1
  rw [List.map_replicate, List.map_replicate]; rfl
theorem nvs_zero (n : Nat) : nvs (List.replicate n 0) = zvs (List.replicate n 0) := by
  unfold zvs ivs nvs r1
  rw [List.map_replicate, List.map_replicate]; rfl
theorem okNeeds_eq (l : List (List Int)) : okNeeds l = l.all (okRow l.length) := rfl
/-- Rows whose needs are all things are rows of numbers. -/
theorem needs_nat {l : List (List Int)} (h : okNeeds l = true) : ∃ N : List (List Nat), l = N.map zof ∧ Rng N := by
  refine ⟨l.map fun r => r.map Int.toNat, ?_, ?_⟩
  · rw [List.map_map]
    have : ∀ r ∈ l, (zof ∘ fun r => r.map Int.toNat) r = r := fun r hr => by
      show zof (r.map Int.toNat) = r
      unfold zof
      rw [List.map_map]
      have h1 := List.all_eq_true.1 h r hr
      have h2 : ∀ k ∈ r, ((fun n : Nat => (n : Int)) ∘ Int.toNat) k = k := fun k hk => by
        have h3 := List.all_eq_true.1 h1 k hk
        simp at h3
        show ((k.toNat : Nat) : Int) = k
        omega
      rw [List.map_congr_left h2, List.map_id']
    rw [List.map_congr_left this, List.map_id']
  · intro r hr k hk
    rw [List.mem_map] at hr
    obtain ⟨r', hr', rfl⟩ := hr
    rw [List.mem_map] at hk
    obtain ⟨k', hk', rfl⟩ := hk
    have h1 := List.all_eq_true.1 h r' hr'
    have h3 := List.all_eq_true.1 h1 k' hk'
    simp at h3
    rw [List.length_map]
    omega
theorem okNeeds_nat {N : List (List Nat)} : okNeeds (N.map zof) = true ↔ Rng N := by
  unfold okNeeds Rng
  simp only [List.all_eq_true, List.mem_map, List.length_map, Bool.and_eq_true, decide_eq_true_eq, zof]
  constructor
  · intro h r hr k hk
    have := h (r.map fun (n : Nat) => (n : Int)) ⟨r, hr, rfl⟩ (k : Int) (List.mem_map.2 ⟨k, hk, rfl⟩)
    omega
  · rintro h _ ⟨r, hr, rfl⟩ k hk
    obtain ⟨q, hq, rfl⟩ := List.mem_map.1 hk
    have := h r hr q hq
    omega
theorem Sml.bnd {N : List (List Nat)} (h : Sml (N.map zof)) (hr : Rng N) : Bnd N :=
  ⟨hr, by have := h.len; simpa using this, fun l hl => by have := h.row (zof l) (List.mem_map.2 ⟨l, hl, rfl⟩); simpa [zof] using this⟩
/-- A row of groups: nil, if there are none. -/
def gOut (g : List (List Nat)) : PV := if g = [] then nS else nss g
theorem groupsR_nil : groupsR [] = [] := rfl
theorem groupsR_ne {N : List (List Nat)} (hr : Rng N) (hN : N ≠ []) : groupsR N ≠ [] := by
  obtain ⟨s, _, h⟩ := parts_done hr
  have hl : 0 < N.length := List.length_pos_iff.2 hN
  have hg := gi_lt h hl
  have h1 := groups_eq hr h
  have key : ∀ (m : Nat) (c : List Bool) (o out : List (List Nat)), ordF N s m c o = some out → out.length = o.length + m := by
    intro m
    induction m with
    | zero => intro c o out h; cases h; rfl
    | succ m ih =>
      intro c o out h
      rw [ordF] at h
      split at h
      · cases h
      · have := ih _ _ _ h
        simp at this
        omega
  have := key _ _ _ _ h1
  intro e
  rw [e] at this
  simp at this
  omega
theorem groups_ok {N : List (List Nat)} (hs : Sml (N.map zof)) (hr : Rng N) : ev (q9 (nss N)) = some (0, [gOut (groupsR N), iv 0]) := by
  have hB := hs.bnd hr
  have hbl := hB.len
  have hc := chk_all (N.map zof) hs (N.map zof) 0 rfl
  rw [← okNeeds_eq, if_pos (okNeeds_nat.2 hr), zss_zof, List.length_map] at hc
  have hmk := fun kp => mk_nvs (d := Res.fail) (kp := kp) (n := N.length) (by omega)
  have hfill := fill_ev (nvs (List.replicate N.length 0)) (nvs (List.replicate N.length 0)) (nss N) N.length (by omega) N.length 0 (by omega)
  rw [show List.replicate 0 (-1 : Int) ++ List.replicate N.length 0 = List.replicate N.length 0 from rfl, ← nvs_zero, ovs_none] at hfill
  simp only [Int.natCast_zero, Int.ofNat_zero] at hc hfill
  by_cases hN : N = []
  · subst hN
    have h17 : ev (q17a (nss []) (nvs []) (nvs []) (ovs [])) = some (0, [nss [], nS, nS, nvs [], nvs [], ovs []]) := by
      have hl : ev (q17ab0a (iv 0) (iv 0) (nss []) (nvs []) (nvs []) (ovs []) (iv 0)) = some (0, [nss [], nS, nS, nvs [], nvs [], ovs [], iv 0]) := Evl.of (by
        rw [h17ab0a, g17ab0a]; simp)
      refine Evl.of ?_
      rw [h17a, g17a]
      simp [hl]
    have h18 : ev (q18a (nss []) (nvs []) (nvs []) (ovs [])) = some (0, [nss [], nS, nS, nvs [], nvs [], ovs [], nS]) := by
      have hl : ev (q18ab0a (nss []) (nvs []) (nvs []) (ovs [])) = some (0, [nss [], nS, nS, nvs [], nvs [], ovs [], nS]) := Evl.of (by
        rw [h18ab0a, g18ab0a]; simp)
      refine Evl.of ?_
      rw [h18a, g18a]
      simp [hl]
    simp only [List.length_nil, Int.natCast_zero, Int.ofNat_zero, List.replicate_zero] at hc hfill
    have hmk0 := fun kp => mk_nvs (d := Res.fail) (kp := kp) (n := 0) (by omega)
    simp only [Int.natCast_zero, Int.ofNat_zero, List.replicate_zero] at hmk0
    refine Evl.of ?_
    rw [h9, g9]
    simp [hc, hmk0, hfill, h17, h18, gOut, groupsR_nil]
  · obtain ⟨s, h1, hD⟩ := parts_done hr
    have hp := parts_ev hB hN h1
    have hne : s.grp ≠ [] := fun e => by
      have := gi_lt hD (List.length_pos_iff.2 hN)
      rw [e] at this
      exact Nat.not_lt_zero _ this
    have hord := order_ev hB hD hne
    have hgne := groupsR_ne hr hN
    unfold startS at hp
    refine Evl.of ?_
    rw [h9, g9]
    simp [hc, hmk, hfill, hp, hord, gOut, hgne]
theorem groups_bad {l : List (List Int)} (hs : Sml l) (h : okNeeds l = false) : ev (q9 (zss l)) = some (0, [nS, iv 2]) := by
  have hc := chk_all l hs l 0 rfl
  rw [← okNeeds_eq, if_neg (by rw [h]; simp)] at hc
  simp only [Int.natCast_zero, Int.ofNat_zero] at hc
  refine Evl.of ?_
  rw [h9, g9]
  simp [hc]
/-! The document's groups. -/
theorem rchk_row (l : List (List Int)) (hs : Sml l) {i : Nat} {r : List Int} (hx : l[i]? = some r) : ∀ (m : List Int) (j : Nat), r.drop j = m →
    ev (q10b2a (iv (j : Int)) (zss l) (iv i)) = some (if okRow l.length m = true then (1, [iv i, zss l]) else (0, [nS, bf]))
  | [], j, hd => by
    have hj : ¬ (j : Int) < r.length := by have := congrArg List.length hd; simp at this; omega
    refine Evl.of ?_
    rw [h10b2a, g10b2a]
    simp [idx_zss hx, hj, okRow]
  | k :: m, j, hd => by
    have hk : r[j]? = some k := by have := congrArg List.head? hd; rwa [List.head?_drop] at this
    have hj : (j : Int) < r.length := by have := (List.getElem?_eq_some_iff.1 hk).1; omega
    have hd' : r.drop (j + 1) = m := by rw [← List.drop_drop, hd]; rfl
    have ih := rchk_row l hs hx m (j + 1) hd'
    have hrl := hs.row r (List.mem_of_getElem? hx)
    have e0 := wr (n := j) (by omega)
    rw [c1] at ih e0
    have ho : okRow l.length (k :: m) = (decide (0 ≤ k) && decide (k < (l.length : Int)) && okRow l.length m) := rfl
    refine Evl.of ?_
    rw [h10b2a, g10b2a, ho]
    by_cases h1 : k < 0
    · have h1' : ¬ 0 ≤ k := by omega
      simp [idx_zss hx, hj, idx_zvs hk, h1, h1']
    · have h1' : 0 ≤ k := by omega
      by_cases h2 : k < (l.length : Int)
      · have h2' : ¬ (l.length : Int) ≤ k := by omega
        simp [idx_zss hx, hj, idx_zvs hk, h1, h1', h2, h2', e0, ih]
      · have h2' : (l.length : Int) ≤ k := by omega
        simp [idx_zss hx, hj, idx_zvs hk, h1, h1', h2, h2']
theorem rchk_all (l : List (List Int)) (hs : Sml l) : ∀ (m : List (List Int)) (i : Nat), l.drop i = m →
    ev (q10b0a (iv (i : Int)) (zss l)) = some (if (m.all (okRow l.length)) = true then (1, [zss l]) else (0, [nS, bf]))
  | [], i, hd => by
    have hj : ¬ (i : Int) < l.length := by have := congrArg List.length hd; simp at this; omega
    refine Evl.of ?_
    rw [h10b0a, g10b0a]
    simp [hj]
  | r :: m, i, hd => by
    have hx : l[i]? = some r := by have := congrArg List.head? hd; rwa [List.head?_drop] at this
    have hj : (i : Int) < l.length := by have := (List.getElem?_eq_some_iff.1 hx).1; omega
    have hd' : l.drop (i + 1) = m := by rw [← List.drop_drop, hd]; rfl
    have ih := rchk_all l hs m (i + 1) hd'
    have hl := hs.len
    have e0 := wr (n := i) (by omega)
    rw [c1] at ih e0
    have h1 := rchk_row l hs hx r 0 rfl
    simp only [Int.natCast_zero, Int.ofNat_zero] at h1
    refine Evl.of ?_
    rw [h10b0a, g10b0a, List.all_cons]
    cases hb : okRow l.length r with
    | true =>
      rw [if_pos hb] at h1
      simp [hj, h1, e0, ih]
    | false =>
      rw [if_neg (by rw [hb]; simp)] at h1
      simp [hj, h1]
theorem rch_ev {N : List (List Nat)} (hs : Sml (N.map zof)) (hr : Rng N) : ev (q12 (nss N)) = some (0, [bsr (rbRows N)]) := Evl.of (by
  rw [h12]
  have h1 : rchP [nss N] = some (0, [bsr (rbRows N)]) := by
    rw [← zss_zof, zss, rchP, rowsOf_iss]
    have hl := hs.len
    have e1 : okNeeds (N.map zof) = true := okNeeds_nat.2 hr
    have e2 : PV.rows (bss (reachRows (N.map zof))) = bsr (rbRows N) := by
      have : reachRows (N.map zof) = rbRows N := by
        unfold reachRows rbRows RB
        rw [List.length_map]; rfl
      rw [this]; rfl
    have e3 : ((N.map zof).all fun l => decide (l.length ≤ 1000000000)) = true := List.all_eq_true.2 fun r hr => decide_eq_true (hs.row r hr)
    simp only [e1, hl, e2, e3, and_self, if_true]
  rw [h1]; rfl)
theorem ref_ok {N : List (List Nat)} (hs : Sml (N.map zof)) (hr : Rng N) : ev (q10w (nss N)) = some (0, [nss (groupsR N), bt]) := by
  have hB := hs.bnd hr
  have hbl := hB.len
  have hc := rchk_all (N.map zof) hs (N.map zof) 0 rfl
  rw [← okNeeds_eq, if_pos (okNeeds_nat.2 hr), zss_zof] at hc
  have hmk := fun kp => mk_bvr (d := Res.fail) (kp := kp) (n := N.length) (by omega)
  obtain ⟨c', hl⟩ := ref_n hbl N.length 0 (List.replicate N.length false) (by omega) (by simp)
  rw [show refF N N.length (List.replicate N.length false) [] = groupsR N from rfl] at hl
  have hrch := rch_ev hs hr
  simp only [Int.natCast_zero, Int.ofNat_zero] at hc hl
  have h10' : ev (q10 (nss N)) = some (if groupsR N = [] then (0, [nS, bt]) else (1, [nss (groupsR N), bt])) := Evl.of (by
    rw [h10, g10]
    by_cases hg : groupsR N = []
    · rw [if_pos hg] at hl
      simp [hc, hrch, hmk, hl, hg]
    · rw [if_neg hg] at hl
      simp [hc, hrch, hmk, hl, hg])
  refine Evl.of ?_
  rw [h10w]
  show weakK (ev (q10 (nss N))) = _
  rw [h10']
  by_cases hg : groupsR N = []
  · rw [if_pos hg, hg]; rfl
  · rw [if_neg hg]; rfl
theorem ref_bad {l : List (List Int)} (hs : Sml l) (h : okNeeds l = false) : ev (q10w (zss l)) = some (0, [nss [], bf]) := by
  have hc := rchk_all l hs l 0 rfl
  rw [← okNeeds_eq, if_neg (by rw [h]; simp)] at hc
  simp only [Int.natCast_zero, Int.ofNat_zero] at hc
  have h10' : ev (q10 (zss l)) = some (0, [nS, bf]) := Evl.of (by
    rw [h10, g10]
    simp [hc])
  refine Evl.of ?_
  rw [h10w]
  show weakK (ev (q10 (zss l))) = _
  rw [h10']; rfl
end Go.Proofs.Ytkfdklocgpgbfaa
namespace Go.Proofs.Ytkfdklocgpgbfaa

/-- Groups that have come, in their order. -/
structure Outs (N : List (List Nat)) (cr : List Bool) (o : List (List Nat)) : Prop where
  len : cr.length = N.length
  come : ∀ x, x < N.length → (cr.getD x false = true ↔ ∃ g ∈ o, x ∈ g)
  grp : ∀ g ∈ o, ∃ a, a < N.length ∧ g = grpR N a
  one : ∀ (u v : Nat) (gu gv : List Nat) (x : Nat), o[u]? = some gu → o[v]? = some gv → x ∈ gu → x ∈ gv → u = v
  ord : ∀ (u : Nat) (gu : List Nat) (x : Nat), o[u]? = some gu → x ∈ gu → ∀ k ∈ nd N x, ∃ (v : Nat) (gv : List Nat), o[v]? = some gv ∧ k ∈ gv ∧ v ≤ u
theorem outs0 (N : List (List Nat)) : Outs N (List.replicate N.length false) [] :=
  ⟨by simp, fun x hx => (by rw [getD_rep _ _ _ rfl]; simp), fun g hg => (by cases hg), fun u v gu gv x h => (by simp at h), fun u gu x h => (by simp at h)⟩
theorem tog_tr {N : List (List Nat)} (hr : Rng N) {a b c : Nat} (ha : a < N.length) (hb : b < N.length) (hc : c < N.length) (h : tog N a b = true) (k : tog N b c = true) : tog N a c = true := by
  rw [tog_iff hr ha hb] at h
  rw [tog_iff hr hb hc] at k
  rw [tog_iff hr ha hc]
  exact ⟨h.1.trans k.1, k.2.trans h.2⟩
theorem tog_sym {N : List (List Nat)} (hr : Rng N) {a b : Nat} (ha : a < N.length) (hb : b < N.length) (h : tog N a b = true) : tog N b a = true := by
  rw [tog_iff hr ha hb] at h
  rw [tog_iff hr hb ha]
  exact ⟨h.2, h.1⟩
theorem Outs.next {N : List (List Nat)} (hr : Rng N) {cr : List Bool} {o : List (List Nat)} (h : Outs N cr o) {a : Nat} (hp : pickR N cr = some a) : Outs N (markR cr (grpR N a)) (o ++ [grpR N a]) := by
  have hp' := hp
  unfold pickR at hp'
  rw [List.find?_range_eq_some] at hp'
  obtain ⟨h1, h2, _⟩ := hp'
  have ha := List.mem_range.1 h2
  have hok : cr.getD a false = false ∧ ∀ k, k < N.length → RB N a k = true → cr.getD k false = true ∨ tog N a k = true := by
    unfold okR at h1
    simp only [Bool.and_eq_true, List.all_eq_true, List.mem_range, Bool.or_eq_true, Bool.not_eq_true'] at h1
    refine ⟨h1.1, fun k hk hik => ?_⟩
    rcases h1.2 k hk with (h3 | h3) | h3
    · rw [hik] at h3; cases h3
    · exact .inl h3
    · exact .inr h3
  -- none of its group has come
  have hnew : ∀ x ∈ grpR N a, ¬ ∃ g ∈ o, x ∈ g := fun x hx ⟨g, hg, hxg⟩ => by
    obtain ⟨b, hb, rfl⟩ := h.grp g hg
    obtain ⟨hxN, hax⟩ := grpR_mem.1 hx
    have hbx := (grpR_mem.1 hxg).2
    have hba := tog_tr hr hb hxN ha hbx (tog_sym hr ha hxN hax)
    have h3 := (h.come a ha).2 ⟨_, hg, grpR_mem.2 ⟨ha, hba⟩⟩
    rw [hok.1] at h3
    cases h3
  have hmem : ∀ g, g ∈ o ++ [grpR N a] ↔ g ∈ o ∨ g = grpR N a := fun g => by rw [List.mem_append, List.mem_singleton]
  have hidx : ∀ (u : Nat) (gu : List Nat), (o ++ [grpR N a])[u]? = some gu → (o[u]? = some gu ∧ u < o.length) ∨ (u = o.length ∧ gu = grpR N a) := fun u gu hu => by
    by_cases hl : u < o.length
    · rw [List.getElem?_append_left hl] at hu
      exact .inl ⟨hu, hl⟩
    · rw [List.getElem?_append_right (by omega)] at hu
      right
      have hul : u = o.length := by
        apply Decidable.byContradiction
        intro hne
        rw [List.getElem?_eq_none (by simp; omega)] at hu
        cases hu
      subst hul
      simp at hu
      exact ⟨rfl, hu.symm⟩
  refine ⟨by rw [markR_len]; exact h.len, fun x hx => ?_, fun g hg => ?_, fun u v gu gv x hu hv hxu hxv => ?_, fun u gu x hu hx k hk => ?_⟩
  · rw [markR_at _ _ _ (by rw [h.len]; exact hx)]
    simp only [Bool.or_eq_true, decide_eq_true_eq, h.come x hx]
    constructor
    · rintro (h3 | ⟨g, hg, hxg⟩)
      · exact ⟨_, (hmem _).2 (.inr rfl), h3⟩
      · exact ⟨g, (hmem _).2 (.inl hg), hxg⟩
    · rintro ⟨g, hg, hxg⟩
      rcases (hmem g).1 hg with hg | rfl
      · exact .inr ⟨g, hg, hxg⟩
      · exact .inl hxg
  · rcases (hmem g).1 hg with hg | rfl
    · exact h.grp g hg
    · exact ⟨a, ha, rfl⟩
  · rcases hidx u gu hu with ⟨hu', _⟩ | ⟨hu', rfl⟩
    · rcases hidx v gv hv with ⟨hv', _⟩ | ⟨hv', rfl⟩
      · exact h.one u v gu gv x hu' hv' hxu hxv
      · exact absurd ⟨gu, List.mem_of_getElem? hu', hxu⟩ (hnew x hxv)
    · rcases hidx v gv hv with ⟨hv', _⟩ | ⟨hv', rfl⟩
      · exact absurd ⟨gv, List.mem_of_getElem? hv', hxv⟩ (hnew x hxu)
      · rw [hu', hv']
  · have hlift : ∀ (v : Nat) (gv : List Nat), o[v]? = some gv → (o ++ [grpR N a])[v]? = some gv := fun v gv hv => by
      rw [List.getElem?_append_left (List.getElem?_eq_some_iff.1 hv).1]; exact hv
    rcases hidx u gu hu with ⟨hu', _⟩ | ⟨hu', rfl⟩
    · obtain ⟨v, gv, h3, h4, h5⟩ := h.ord u gu x hu' hx k hk
      exact ⟨v, gv, hlift v gv h3, h4, h5⟩
    · obtain ⟨hxN, hax⟩ := grpR_mem.1 hx
      have hkN := hr.at x k hk
      have hax' := ((tog_iff hr ha hxN).1 hax).1
      have hak : Rch1 N a k := by
        cases hax' with
        | refl => exact ⟨k, hk, .refl _⟩
        | step hq hq' => exact ⟨_, hq, hq'.trans (.one hk)⟩
      rcases hok.2 k hkN ((RB_iff hr ha).2 hak) with h3 | h3
      · obtain ⟨g, hg, hkg⟩ := (h.come k hkN).1 h3
        obtain ⟨v, hv, e⟩ := List.getElem_of_mem hg
        have h4 : o[v]? = some g := by rw [List.getElem?_eq_getElem hv, e]
        exact ⟨v, g, hlift v g h4, hkg, by omega⟩
      · refine ⟨o.length, _, ?_, grpR_mem.2 ⟨hkN, h3⟩, by omega⟩
        rw [List.getElem?_append_right (Nat.le_refl _)]; simp
/-- What the document's groups are like. -/
theorem refF_outs {N : List (List Nat)} (hr : Rng N) : ∀ (t : Nat) (cr : List Bool) (o : List (List Nat)), Outs N cr o → ∃ (cr' : List Bool), Outs N cr' (refF N t cr o)
  | 0, cr, o, h => ⟨cr, h⟩
  | t + 1, cr, o, h => by
    rw [refF]
    cases hp : pickR N cr with
    | none => exact refF_outs hr t cr o h
    | some a => exact refF_outs hr t _ _ (h.next hr hp)
/-- The steps of both sides, with what has come behind them. -/
theorem ref_end {N : List (List Nat)} {s : St} (hr : Rng N) (h : Done N s) : ∀ (m : Nat) (cp cr : List Bool) (t : Nat) (o : List (List Nat)), Joint N s cp cr t → t + m = s.grp.length →
    ∃ (cr' : List Bool), refF N m cr o = refF N m cr o ∧ (∀ q, refF N (m + q) cr o = refF N m cr o) ∧ (∀ x, x < N.length → cr'.getD x false = true) ∧ (Outs N cr o → Outs N cr' (refF N m cr o)) ∧ cr'.length = N.length ∧ (refF N m cr o).length = o.length + m
  | 0, cp, cr, t, o, J, ht => by
    have : t = s.grp.length := by omega
    subst this
    refine ⟨cr, rfl, fun q => by rw [Nat.zero_add]; exact refF_none (J.none hr h) q o, fun x hx => ?_, id, J.rl, rfl⟩
    rw [J.eq x hx]
    have hl : gi s x < cp.length := by rw [J.pl]; exact gi_lt h hx
    have hall := List.count_eq_length.1 (J.cnt.trans J.pl.symm)
    rw [getD_lt hl]
    exact (hall _ (List.getElem_mem hl)).symm
  | m + 1, cp, cr, t, o, J, ht => by
    obtain ⟨i, hi⟩ := J.some hr h (by omega)
    obtain ⟨J', hiN⟩ := J.next hr h hi
    have hpr : pickR N cr = some i := by rw [pick_eq hr h J]; exact hi
    obtain ⟨cr', _, h2, h3, h4, h5, h6⟩ := ref_end hr h m _ _ (t + 1) (o ++ [grpR N i]) J' (by omega)
    have e : ∀ q, refF N (m + 1 + q) cr o = refF N (m + q) (markR cr (grpR N i)) (o ++ [grpR N i]) := fun q => by
      rw [show m + 1 + q = (m + q) + 1 by omega, refF, hpr]
    have e0 : refF N (m + 1) cr o = refF N m (markR cr (grpR N i)) (o ++ [grpR N i]) := e 0
    refine ⟨cr', rfl, fun q => by rw [e, e0]; exact h2 q, h3, fun ho => by rw [e0]; exact h4 (ho.next hr hpr), h5, by rw [e0, h6]; simp; omega⟩
theorem groupsR_outs {N : List (List Nat)} (hr : Rng N) : ∃ (cr : List Bool), Outs N cr (groupsR N) ∧ ∀ x, x < N.length → cr.getD x false = true := by
  obtain ⟨s, _, h⟩ := parts_done hr
  have hl : s.grp.length ≤ N.length := by
    have h1 := h.inv.wf.gs
    have h2 := h.inv.wf.c
    omega
  obtain ⟨cr', _, h2, h3, h4, _⟩ := ref_end hr h s.grp.length _ _ 0 [] (joint0 N s) (by omega)
  have e := h2 (N.length - s.grp.length)
  rw [show s.grp.length + (N.length - s.grp.length) = N.length by omega] at e
  exact ⟨cr', by rw [groupsR, e]; exact h4 (outs0 N), h3⟩
/-! A thing more. -/
theorem nd_more {N : List (List Nat)} {r : List Nat} {i : Nat} (h : i < N.length) : nd (N ++ [r]) i = nd N i := by
  unfold nd
  rw [List.getD_eq_getElem?_getD, List.getElem?_append_left h, ← List.getD_eq_getElem?_getD]
theorem nd_last {N : List (List Nat)} {r : List Nat} : nd (N ++ [r]) N.length = r := by
  unfold nd
  rw [List.getD_eq_getElem?_getD, List.getElem?_append_right (Nat.le_refl _)]; simp
theorem Rng.more {N : List (List Nat)} {r : List Nat} (h : Rng N) (hk : ∀ k ∈ r, k ≤ N.length) : Rng (N ++ [r]) := fun l hl k hkl => by
  rw [List.length_append, List.length_singleton]
  rcases List.mem_append.1 hl with hl | hl
  · have := h l hl k hkl; omega
  · rw [List.mem_singleton.1 hl] at hkl
    have := hk k hkl
    omega
theorem rch_more {N : List (List Nat)} {r : List Nat} (hr : Rng N) {x y : Nat} (hx : x < N.length) : Rch (N ++ [r]) x y ↔ Rch N x y := by
  constructor
  · intro h
    induction h with
    | refl => exact .refl _
    | step hk _ ih =>
      rw [nd_more hx] at hk
      exact .step hk (ih (hr.at _ _ hk))
  · intro h
    induction h with
    | refl => exact .refl _
    | step hk _ ih => exact .step (by rw [nd_more hx]; exact hk) (ih (hr.at _ _ hk))
theorem RB_more {N : List (List Nat)} {r : List Nat} (hr : Rng N) (hr' : Rng (N ++ [r])) {i k : Nat} (hi : i < N.length) : RB (N ++ [r]) i k = RB N i k := by
  have h1 := RB_iff hr' (i := i) (k := k) (by simp; omega)
  have h2 := RB_iff hr (i := i) (k := k) hi
  have h3 : Rch1 (N ++ [r]) i k ↔ Rch1 N i k := by
    unfold Rch1
    rw [nd_more hi]
    constructor
    · rintro ⟨x, hx, h⟩; exact ⟨x, hx, (rch_more hr (hr.at i x hx)).1 h⟩
    · rintro ⟨x, hx, h⟩; exact ⟨x, hx, (rch_more hr (hr.at i x hx)).2 h⟩
  exact Bool.eq_iff_iff.2 (h1.trans (h3.trans h2.symm))
theorem RB_last {N : List (List Nat)} (hr : Rng N) {i : Nat} (hi : i < N.length) : RB N i N.length = false := by
  cases h : RB N i N.length with
  | false => rfl
  | true =>
    obtain ⟨x, hx, h1⟩ := (RB_iff hr hi).1 h
    have := h1.lt hr (hr.at i x hx)
    omega
theorem tog_more {N : List (List Nat)} {r : List Nat} (hr : Rng N) (hr' : Rng (N ++ [r])) {i k : Nat} (hi : i < N.length) (hk : k < N.length) : tog (N ++ [r]) i k = tog N i k := by
  unfold tog
  rw [RB_more hr hr' hi, RB_more hr hr' hk]
theorem tog_out {N : List (List Nat)} {r : List Nat} (hr : Rng N) (hr' : Rng (N ++ [r])) {i : Nat} (hi : i < N.length) : tog (N ++ [r]) i N.length = false ∧ tog (N ++ [r]) N.length i = false := by
  have h1 : RB (N ++ [r]) i N.length = false := by rw [RB_more hr hr' hi]; exact RB_last hr hi
  have h2 : (i == N.length) = false := by simp; omega
  have h3 : (N.length == i) = false := by simp; omega
  unfold tog
  rw [h1, h2, h3]
  simp
theorem grp_more {N : List (List Nat)} {r : List Nat} (hr : Rng N) (hr' : Rng (N ++ [r])) {i : Nat} (hi : i < N.length) : grpR (N ++ [r]) i = grpR N i := by
  unfold grpR
  rw [List.length_append, List.length_singleton, List.range_succ, List.filter_append]
  have h1 : [N.length].filter (tog (N ++ [r]) i) = [] := by
    rw [List.filter_cons, (tog_out hr hr' hi).1]; rfl
  rw [h1, List.append_nil]
  exact List.filter_congr fun x hx => tog_more hr hr' hi (List.mem_range.1 hx)
theorem grp_last {N : List (List Nat)} {r : List Nat} (hr : Rng N) (hr' : Rng (N ++ [r])) : grpR (N ++ [r]) N.length = [N.length] := by
  unfold grpR
  rw [List.length_append, List.length_singleton, List.range_succ, List.filter_append]
  have h1 : (List.range N.length).filter (tog (N ++ [r]) N.length) = [] := by
    rw [List.filter_eq_nil_iff]
    intro x hx
    rw [(tog_out hr hr' (List.mem_range.1 hx)).2]
    simp
  rw [h1, List.nil_append, List.filter_cons]
  simp [tog]
theorem getD_app {c : List Bool} {k : Nat} (h : k < c.length) (d : List Bool) : (c ++ d).getD k false = c.getD k false := by
  rw [List.getD_eq_getElem?_getD, List.getElem?_append_left h, ← List.getD_eq_getElem?_getD]
theorem getD_end {c : List Bool} (b : Bool) : (c ++ [b]).getD c.length false = b := by
  rw [List.getD_eq_getElem?_getD, List.getElem?_append_right (Nat.le_refl _)]; simp
theorem ok_more {N : List (List Nat)} {r : List Nat} (hr : Rng N) (hr' : Rng (N ++ [r])) {c : List Bool} (hc : c.length = N.length) (b : Bool) {i : Nat} (hi : i < N.length) : okR (N ++ [r]) (c ++ [b]) i = okR N c i := by
  unfold okR
  rw [getD_app (by omega), List.length_append, List.length_singleton, List.range_succ, List.all_append]
  have h1 : ([N.length].all fun k => !RB (N ++ [r]) i k || (c ++ [b]).getD k false || tog (N ++ [r]) i k) = true := by
    simp [RB_more hr hr' hi, RB_last hr hi]
  rw [h1, Bool.and_true]
  congr 1
  rw [Bool.eq_iff_iff, List.all_eq_true, List.all_eq_true]
  constructor
  · intro h k hk
    have hkN := List.mem_range.1 hk
    have := h k hk
    rwa [RB_more hr hr' hi, getD_app (by omega), tog_more hr hr' hi hkN] at this
  · intro h k hk
    have hkN := List.mem_range.1 hk
    have := h k hk
    rwa [RB_more hr hr' hi, getD_app (by omega), tog_more hr hr' hi hkN]
theorem mark_app : ∀ (g : List Nat) (c : List Bool) (b : Bool), (∀ k ∈ g, k < c.length) → markR (c ++ [b]) g = markR c g ++ [b]
  | [], c, b, _ => rfl
  | k :: g, c, b, h => by
    show markR ((c ++ [b]).set k true) g = markR (c.set k true) g ++ [b]
    rw [List.set_append_left _ _ (h k (List.mem_cons_self ..))]
    exact mark_app g _ b (fun q hq => by rw [List.length_set]; exact h q (List.mem_cons_of_mem _ hq))
theorem last_step {N : List (List Nat)} {r : List Nat} (hr : Rng N) (hr' : Rng (N ++ [r])) {s : St} (h : Done N s) : ∀ (m : Nat) (cp cr : List Bool) (t : Nat) (o : List (List Nat)) (q : Nat), Joint N s cp cr t → t + m = s.grp.length →
    ∃ (cr' : List Bool), (∀ x, x < N.length → cr'.getD x false = true) ∧ cr'.length = N.length ∧ refF (N ++ [r]) (m + q) (cr ++ [false]) o = refF (N ++ [r]) q (cr' ++ [false]) (refF N m cr o)
  | 0, cp, cr, t, o, q, J, ht => by
    have : t = s.grp.length := by omega
    subst this
    refine ⟨cr, fun x hx => ?_, J.rl, by rw [Nat.zero_add]; rfl⟩
    rw [J.eq x hx]
    have hl : gi s x < cp.length := by rw [J.pl]; exact gi_lt h hx
    have hall := List.count_eq_length.1 (J.cnt.trans J.pl.symm)
    rw [getD_lt hl]
    exact (hall _ (List.getElem_mem hl)).symm
  | m + 1, cp, cr, t, o, q, J, ht => by
    obtain ⟨i, hi⟩ := J.some hr h (by omega)
    obtain ⟨J', hiN⟩ := J.next hr h hi
    have hpr : pickR N cr = some i := by rw [pick_eq hr h J]; exact hi
    have hpr' : pickR (N ++ [r]) (cr ++ [false]) = some i := by
      have hp := hpr
      unfold pickR at hp ⊢
      rw [List.find?_range_eq_some] at hp ⊢
      obtain ⟨h1, h2, h3⟩ := hp
      refine ⟨by rw [ok_more hr hr' J.rl false hiN]; exact h1, by simp; omega, fun j hj => ?_⟩
      rw [ok_more hr hr' J.rl false (by omega)]
      exact h3 j hj
    obtain ⟨cr', h1, h2, h3⟩ := last_step hr hr' h m _ _ (t + 1) (o ++ [grpR N i]) q J' (by omega)
    refine ⟨cr', h1, h2, ?_⟩
    rw [show m + 1 + q = (m + q) + 1 by omega, refF, hpr']
    show refF (N ++ [r]) (m + q) (markR (cr ++ [false]) (grpR (N ++ [r]) i)) (o ++ [grpR (N ++ [r]) i]) = _
    rw [grp_more hr hr' hiN, mark_app _ _ _ (fun k hk => by rw [J.rl]; exact (grpR_mem.1 hk).1), h3, refF, hpr]
/-- **A thing more that nobody needs comes last, alone.** -/
theorem groups_last {N : List (List Nat)} {r : List Nat} (hr : Rng N) (hk : ∀ k ∈ r, k ≤ N.length) : groupsR (N ++ [r]) = groupsR N ++ [[N.length]] := by
  have hr' := hr.more hk
  obtain ⟨s, _, h⟩ := parts_done hr
  have hl : s.grp.length ≤ N.length := by
    have h1 := h.inv.wf.gs
    have h2 := h.inv.wf.c
    omega
  obtain ⟨_, _, h2, _, _, _⟩ := ref_end hr h s.grp.length _ _ 0 [] (joint0 N s) (by omega)
  have e := h2 (N.length - s.grp.length)
  rw [show s.grp.length + (N.length - s.grp.length) = N.length by omega] at e
  obtain ⟨cr', g1, g2, g3⟩ := last_step hr hr' h s.grp.length _ _ 0 [] (N.length - s.grp.length + 1) (joint0 N s) (by omega)
  have hlen : (N ++ [r]).length = s.grp.length + (N.length - s.grp.length + 1) := by simp; omega
  have hrep : List.replicate (N ++ [r]).length false = List.replicate N.length false ++ [false] := by
    rw [List.length_append, List.length_singleton, List.replicate_succ']
  have hG : groupsR N = refF N s.grp.length (List.replicate N.length false) [] := e
  unfold groupsR at hG ⊢
  rw [hrep, hlen, g3, ← hG, refF]
  have hpk : pickR (N ++ [r]) (cr' ++ [false]) = some N.length := by
    unfold pickR
    rw [List.find?_range_eq_some]
    refine ⟨?_, by simp, fun j hj => ?_⟩
    · unfold okR
      rw [← g2, getD_end, g2]
      simp only [Bool.not_false, Bool.true_and, List.all_eq_true, List.mem_range, List.length_append, List.length_singleton, Bool.or_eq_true]
      intro k hk
      by_cases hkN : k < N.length
      · left; right
        rw [getD_app (by omega)]; exact g1 k hkN
      · right
        have : k = N.length := by omega
        subst this
        unfold tog; simp
    · rw [ok_more hr hr' g2 false hj]
      unfold okR
      rw [g1 j hj]
      rfl
  rw [hpk]
  show refF (N ++ [r]) (N.length - s.grp.length) (markR (cr' ++ [false]) (grpR (N ++ [r]) N.length)) (_ ++ [grpR (N ++ [r]) N.length]) = _
  rw [grp_last hr hr']
  refine refF_none ?_ _ _
  unfold pickR
  rw [List.find?_range_eq_none]
  intro i hi
  have hi' : i ≤ N.length := by simp at hi; omega
  have hc : (markR (cr' ++ [false]) [N.length]).getD i false = true := by
    rw [markR_at _ _ _ (by simp [g2]; omega)]
    by_cases hiN : i < N.length
    · rw [getD_app (by omega), g1 i hiN]; simp
    · have : i = N.length := by omega
      subst this
      simp
  unfold okR
  rw [hc]
  rfl
end Go.Proofs.Ytkfdklocgpgbfaa
