/- The equations of the entries. Printed by hq2.py. -/
import Derived.Test.YtlfkefbhdmfllaaGreatDoorEz0
import Derived.KernelRfl
namespace Go.Proofs.YtlfkefbhdmfllaaGreatDoor
open Go.RowKit
set_option linter.unusedVariables false
set_option maxRecDepth 100000
variable (O : Q → Option Rs)
theorem h5 (a b c d e f g h i j k l m) : body PG EE TT O (q5 a b c d e f g h i j k l m) = g5 (T := Sm) a b c d e f g h i j k l m O := by kernel_rfl
theorem h16 (a b c d e f g h i j k l m) : body PG EE TT O (q16 a b c d e f g h i j k l m) = g16 (T := Sm) a b c d e f g h i j k l m O := by kernel_rfl
theorem h16b0a (a b c d e f g h i j k l m n o) : body PG EE TT O (q16b0a a b c d e f g h i j k l m n o) = g16b0a (T := Sm) a b c d e f g h i j k l m n o O := by kernel_rfl
theorem h16b2a (a b c d e f g h i j k l m n o) : body PG EE TT O (q16b2a a b c d e f g h i j k l m n o) = g16b2a (T := Sm) a b c d e f g h i j k l m n o O := by kernel_rfl
theorem h16b4a (a b c d e f g h i j k l m n o) : body PG EE TT O (q16b4a a b c d e f g h i j k l m n o) = g16b4a (T := Sm) a b c d e f g h i j k l m n o O := by kernel_rfl
theorem h27 (a) : body PG EE TT O (q27 a) = g27 (T := Sm) a O := by kernel_rfl
theorem h27b0a (a b c d) : body PG EE TT O (q27b0a a b c d) = g27b0a (T := Sm) a b c d O := by kernel_rfl
theorem h28 (a) : body PG EE TT O (q28 a) = g28 (T := Sm) a O := by kernel_rfl
theorem h28b0a (a b c d) : body PG EE TT O (q28b0a a b c d) = g28b0a (T := Sm) a b c d O := by kernel_rfl
theorem h67 (a b c d e) : body PG EE TT O (q67 a b c d e) = g67 (T := Sm) a b c d e O := by kernel_rfl
theorem h123 (a b c d e) : body PG EE TT O (q123 a b c d e) = g123 (T := Sm) a b c d e O := by kernel_rfl
theorem h123b0a (a b c d e f g) : body PG EE TT O (q123b0a a b c d e f g) = g123b0a (T := Sm) a b c d e f g O := by kernel_rfl
theorem h6 (a b c d e f g h i j k l) : body PG EE TT O (q6 a b c d e f g h i j k l) = g6 (T := Sm) a b c d e f g h i j k l O := by kernel_rfl
theorem h6b0a (a b c d e f g h i j k l m n o p q r s t u v w x) : body PG EE TT O (q6b0a a b c d e f g h i j k l m n o p q r s t u v w x) = g6b0a (T := Sm) a b c d e f g h i j k l m n o p q r s t u v w x O := by kernel_rfl
theorem h6b0b (a b c d e f g h i j k l m n o p q r s t u v w) : body PG EE TT O (q6b0b a b c d e f g h i j k l m n o p q r s t u v w) = g6b0b (T := Sm) a b c d e f g h i j k l m n o p q r s t u v w O := by kernel_rfl
theorem h6b0c (a b c d e f g h i j k l m n o p q r s t u v w x y) : body PG EE TT O (q6b0c a b c d e f g h i j k l m n o p q r s t u v w x y) = g6b0c (T := Sm) a b c d e f g h i j (.rows k) l m n o p q r s t u v w x y O := by kernel_rfl
theorem h6b0d (a b c d e f g h i j k l m n o p q r s t u v w x) : body PG EE TT O (q6b0d a b c d e f g h i j k l m n o p q r s t u v w x) = g6b0d (T := Sm) a b c d e f g h i (.rows j) k l m n o p q r s t u v w x O := by kernel_rfl
theorem h6b2a (a b c d e f g h i j k l) : body PG EE TT O (q6b2a a b c d e f g h i j k l) = g6b2a (T := Sm) a b c d e f g h i j k l O := by kernel_rfl
theorem h6b2b (a b c d e f g h i j k l m) : body PG EE TT O (q6b2b a b c d e f g h i j k l m) = g6b2b (T := Sm) a b c d e f g h i j (.rows k) l m O := by kernel_rfl
theorem h6b2c (a b c d e f g h i j k l m) : body PG EE TT O (q6b2c a b c d e f g h i j k l m) = g6b2c (T := Sm) a b c d e f g h i j (.rows k) l m O := by kernel_rfl
theorem h6b2d (a b c d e f g h i j k l m n) : body PG EE TT O (q6b2d a b c d e f g h i j k l m n) = g6b2d (T := Sm) a b c d e f g h i j (.rows k) (.rows l) m n O := by kernel_rfl
theorem h6b2e (a b c d e f g h i j k) : body PG EE TT O (q6b2e a b c d e f g h i j k) = g6b2e (T := Sm) a b c d e f g h i j k O := by kernel_rfl
theorem h6b2f (a b c d e f g h i j k l) : body PG EE TT O (q6b2f a b c d e f g h i j k l) = g6b2f (T := Sm) a b c d e f g h i (.rows j) k l O := by kernel_rfl
theorem h6b2g (a b c d e f g h i j k l) : body PG EE TT O (q6b2g a b c d e f g h i j k l) = g6b2g (T := Sm) a b c d e f g h i (.rows j) k l O := by kernel_rfl
theorem h6b2h (a b c d e f g h i j k l m) : body PG EE TT O (q6b2h a b c d e f g h i j k l m) = g6b2h (T := Sm) a b c d e f g h i (.rows j) (.rows k) l m O := by kernel_rfl
theorem h6b2i (a b c d e f g h i j k l) : body PG EE TT O (q6b2i a b c d e f g h i j k l) = g6b2i (T := Sm) a b c d e f g h i (.rows j) k l O := by kernel_rfl
theorem h6b2j (a b c d e f g h i j k l m) : body PG EE TT O (q6b2j a b c d e f g h i j k l m) = g6b2j (T := Sm) a b c d e f g h i (.rows j) (.rows k) l m O := by kernel_rfl
theorem h6b2k (a b c d e f g h i j k l m) : body PG EE TT O (q6b2k a b c d e f g h i j k l m) = g6b2k (T := Sm) a b c d e f g h i (.rows j) (.rows k) l m O := by kernel_rfl
theorem h6b2l (a b c d e f g h i j k l m n) : body PG EE TT O (q6b2l a b c d e f g h i j k l m n) = g6b2l (T := Sm) a b c d e f g h i (.rows j) (.rows k) (.rows l) m n O := by kernel_rfl
theorem h6b2m (a b c d e f g h i j k l m) : body PG EE TT O (q6b2m a b c d e f g h i j k l m) = g6b2m (T := Sm) a b c d e f g h i j (.rows k) l m O := by kernel_rfl
theorem h6b2n (a b c d e f g h i j k l m) : body PG EE TT O (q6b2n a b c d e f g h i j k l m) = g6b2n (T := Sm) a b c d e f g h i j (.rows k) l m O := by kernel_rfl
theorem h6b2o (a b c d e f g h i j k l m n) : body PG EE TT O (q6b2o a b c d e f g h i j k l m n) = g6b2o (T := Sm) a b c d e f g h i j (.rows k) (.rows l) m n O := by kernel_rfl
theorem h6b2p (a b c d e f g h i j k l m n) : body PG EE TT O (q6b2p a b c d e f g h i j k l m n) = g6b2p (T := Sm) a b c d e f g h i j (.rows k) (.rows l) m n O := by kernel_rfl
theorem h6b2q (a b c d e f g h i j k l) : body PG EE TT O (q6b2q a b c d e f g h i j k l) = g6b2q (T := Sm) a b c d e f g h i (.rows j) k l O := by kernel_rfl
theorem h6b2r (a b c d e f g h i j k l) : body PG EE TT O (q6b2r a b c d e f g h i j k l) = g6b2r (T := Sm) a b c d e f g h i (.rows j) k l O := by kernel_rfl
theorem h6b2s (a b c d e f g h i j k l m) : body PG EE TT O (q6b2s a b c d e f g h i j k l m) = g6b2s (T := Sm) a b c d e f g h i (.rows j) (.rows k) l m O := by kernel_rfl
theorem h6b2t (a b c d e f g h i j k l m) : body PG EE TT O (q6b2t a b c d e f g h i j k l m) = g6b2t (T := Sm) a b c d e f g h i (.rows j) (.rows k) l m O := by kernel_rfl
theorem h6b2u (a b c d e f g h i j k l m) : body PG EE TT O (q6b2u a b c d e f g h i j k l m) = g6b2u (T := Sm) a b c d e f g h i (.rows j) (.rows k) l m O := by kernel_rfl
theorem h6b2v (a b c d e f g h i j k l m) : body PG EE TT O (q6b2v a b c d e f g h i j k l m) = g6b2v (T := Sm) a b c d e f g h i (.rows j) (.rows k) l m O := by kernel_rfl
theorem h6b2w (a b c d e f g h i j k l m n) : body PG EE TT O (q6b2w a b c d e f g h i j k l m n) = g6b2w (T := Sm) a b c d e f g h i (.rows j) (.rows k) (.rows l) m n O := by kernel_rfl
theorem h6b2x (a b c d e f g h i j k l m n) : body PG EE TT O (q6b2x a b c d e f g h i j k l m n) = g6b2x (T := Sm) a b c d e f g h i (.rows j) (.rows k) (.rows l) m n O := by kernel_rfl
theorem h10 (a) : body PG EE TT O (q10 a) = g10 (T := Sm) a O := by kernel_rfl
theorem h10b0a (a b c) : body PG EE TT O (q10b0a a b c) = g10b0a (T := Sm) a b c O := by kernel_rfl
theorem h10b0b (a b c d) : body PG EE TT O (q10b0b a b c d) = g10b0b (T := Sm) a b c (.rows d) O := by kernel_rfl
theorem h7 (a b c d e f g h i j k l) : body PG EE TT O (q7 a b c d e f g h i j k l) = g7 (T := Sm) a b c d e f g h i j k l O := by kernel_rfl
theorem h7b0a (a b c d e f g h i j k l m n o p q r s t u v) : body PG EE TT O (q7b0a a b c d e f g h i j k l m n o p q r s t u v) = g7b0a (T := Sm) a b c d e f g h i j k l m n o p q r s t u v O := by kernel_rfl
theorem h7b0b (a b c d e f g h i j k l m n o p q r s t u) : body PG EE TT O (q7b0b a b c d e f g h i j k l m n o p q r s t u) = g7b0b (T := Sm) a b c d e f g h i j k l m n o p q r s t u O := by kernel_rfl
theorem h7b0c (a b c d e f g h i j k l m n o p q r s t u v w) : body PG EE TT O (q7b0c a b c d e f g h i j k l m n o p q r s t u v w) = g7b0c (T := Sm) a b c d e f g h i j k l m n o p q r s t (.rows u) v w O := by kernel_rfl
theorem h7b0d (a b c d e f g h i j k l m n o p q r s t u v) : body PG EE TT O (q7b0d a b c d e f g h i j k l m n o p q r s t u v) = g7b0d (T := Sm) a b c d e f g h i j k l m n o p q r s (.rows t) u v O := by kernel_rfl
theorem h7b2a (a b c d e f g h i j k l m n o p q r s t u v) : body PG EE TT O (q7b2a a b c d e f g h i j k l m n o p q r s t u v) = g7b2a (T := Sm) a b c d e f g h i j k l m n o p q r s t u v O := by kernel_rfl
theorem h7b2b (a b c d e f g h i j k l m n o p q r s t u v w) : body PG EE TT O (q7b2b a b c d e f g h i j k l m n o p q r s t u v w) = g7b2b (T := Sm) a b c d e f g h i j k l m n o p q r s t (.rows u) v w O := by kernel_rfl
theorem h7b2c (a b c d e f g h i j k l m n o p q r s t u v w) : body PG EE TT O (q7b2c a b c d e f g h i j k l m n o p q r s t u v w) = g7b2c (T := Sm) a b c d e f g h i j k l m n o p q r s t (.rows u) v w O := by kernel_rfl
theorem h7b2d (a b c d e f g h i j k l m n o p q r s t u v w x) : body PG EE TT O (q7b2d a b c d e f g h i j k l m n o p q r s t u v w x) = g7b2d (T := Sm) a b c d e f g h i j k l m n o p q r s t (.rows u) (.rows v) w x O := by kernel_rfl
theorem h7b2e (a b c d e f g h i j k l m n o p q r s t u) : body PG EE TT O (q7b2e a b c d e f g h i j k l m n o p q r s t u) = g7b2e (T := Sm) a b c d e f g h i j k l m n o p q r s t u O := by kernel_rfl
theorem h7b2f (a b c d e f g h i j k l m n o p q r s t u v) : body PG EE TT O (q7b2f a b c d e f g h i j k l m n o p q r s t u v) = g7b2f (T := Sm) a b c d e f g h i j k l m n o p q r s (.rows t) u v O := by kernel_rfl
theorem h7b2g (a b c d e f g h i j k l m n o p q r s t u v) : body PG EE TT O (q7b2g a b c d e f g h i j k l m n o p q r s t u v) = g7b2g (T := Sm) a b c d e f g h i j k l m n o p q r s (.rows t) u v O := by kernel_rfl
theorem h7b2h (a b c d e f g h i j k l m n o p q r s t u v w) : body PG EE TT O (q7b2h a b c d e f g h i j k l m n o p q r s t u v w) = g7b2h (T := Sm) a b c d e f g h i j k l m n o p q r s (.rows t) (.rows u) v w O := by kernel_rfl
theorem h7b2i (a b c d e f g h i j k l m n o p q r s t u v) : body PG EE TT O (q7b2i a b c d e f g h i j k l m n o p q r s t u v) = g7b2i (T := Sm) a b c d e f g h i j k l m n o p q r s (.rows t) u v O := by kernel_rfl
theorem h7b2j (a b c d e f g h i j k l m n o p q r s t u v w) : body PG EE TT O (q7b2j a b c d e f g h i j k l m n o p q r s t u v w) = g7b2j (T := Sm) a b c d e f g h i j k l m n o p q r s (.rows t) (.rows u) v w O := by kernel_rfl
theorem h7b2k (a b c d e f g h i j k l m n o p q r s t u v w) : body PG EE TT O (q7b2k a b c d e f g h i j k l m n o p q r s t u v w) = g7b2k (T := Sm) a b c d e f g h i j k l m n o p q r s (.rows t) (.rows u) v w O := by kernel_rfl
theorem h7b2l (a b c d e f g h i j k l m n o p q r s t u v w x) : body PG EE TT O (q7b2l a b c d e f g h i j k l m n o p q r s t u v w x) = g7b2l (T := Sm) a b c d e f g h i j k l m n o p q r s (.rows t) (.rows u) (.rows v) w x O := by kernel_rfl
theorem h7b2m (a b c d e f g h i j k l m n o p q r s t u v w) : body PG EE TT O (q7b2m a b c d e f g h i j k l m n o p q r s t u v w) = g7b2m (T := Sm) a b c d e f g h i j k l m n o p q r s t (.rows u) v w O := by kernel_rfl
theorem h7b2n (a b c d e f g h i j k l m n o p q r s t u v w) : body PG EE TT O (q7b2n a b c d e f g h i j k l m n o p q r s t u v w) = g7b2n (T := Sm) a b c d e f g h i j k l m n o p q r s t (.rows u) v w O := by kernel_rfl
theorem h7b2o (a b c d e f g h i j k l m n o p q r s t u v w x) : body PG EE TT O (q7b2o a b c d e f g h i j k l m n o p q r s t u v w x) = g7b2o (T := Sm) a b c d e f g h i j k l m n o p q r s t (.rows u) (.rows v) w x O := by kernel_rfl
theorem h7b2p (a b c d e f g h i j k l m n o p q r s t u v w x) : body PG EE TT O (q7b2p a b c d e f g h i j k l m n o p q r s t u v w x) = g7b2p (T := Sm) a b c d e f g h i j k l m n o p q r s t (.rows u) (.rows v) w x O := by kernel_rfl
theorem h7b2q (a b c d e f g h i j k l m n o p q r s t u v) : body PG EE TT O (q7b2q a b c d e f g h i j k l m n o p q r s t u v) = g7b2q (T := Sm) a b c d e f g h i j k l m n o p q r s (.rows t) u v O := by kernel_rfl
theorem h7b2r (a b c d e f g h i j k l m n o p q r s t u v) : body PG EE TT O (q7b2r a b c d e f g h i j k l m n o p q r s t u v) = g7b2r (T := Sm) a b c d e f g h i j k l m n o p q r s (.rows t) u v O := by kernel_rfl
theorem h7b2s (a b c d e f g h i j k l m n o p q r s t u v w) : body PG EE TT O (q7b2s a b c d e f g h i j k l m n o p q r s t u v w) = g7b2s (T := Sm) a b c d e f g h i j k l m n o p q r s (.rows t) (.rows u) v w O := by kernel_rfl
theorem h7b2t (a b c d e f g h i j k l m n o p q r s t u v w) : body PG EE TT O (q7b2t a b c d e f g h i j k l m n o p q r s t u v w) = g7b2t (T := Sm) a b c d e f g h i j k l m n o p q r s (.rows t) (.rows u) v w O := by kernel_rfl
theorem h7b2u (a b c d e f g h i j k l m n o p q r s t u v w) : body PG EE TT O (q7b2u a b c d e f g h i j k l m n o p q r s t u v w) = g7b2u (T := Sm) a b c d e f g h i j k l m n o p q r s (.rows t) (.rows u) v w O := by kernel_rfl
theorem h7b2v (a b c d e f g h i j k l m n o p q r s t u v w) : body PG EE TT O (q7b2v a b c d e f g h i j k l m n o p q r s t u v w) = g7b2v (T := Sm) a b c d e f g h i j k l m n o p q r s (.rows t) (.rows u) v w O := by kernel_rfl
theorem h7b2w (a b c d e f g h i j k l m n o p q r s t u v w x) : body PG EE TT O (q7b2w a b c d e f g h i j k l m n o p q r s t u v w x) = g7b2w (T := Sm) a b c d e f g h i j k l m n o p q r s (.rows t) (.rows u) (.rows v) w x O := by kernel_rfl
theorem h7b2x (a b c d e f g h i j k l m n o p q r s t u v w x) : body PG EE TT O (q7b2x a b c d e f g h i j k l m n o p q r s t u v w x) = g7b2x (T := Sm) a b c d e f g h i j k l m n o p q r s (.rows t) (.rows u) (.rows v) w x O := by kernel_rfl
theorem h11 (a) : body PG EE TT O (q11 a) = g11 (T := Sm) a O := by kernel_rfl
theorem h11b0a (a b) : body PG EE TT O (q11b0a a b) = g11b0a (T := Sm) a b O := by kernel_rfl
theorem h11b0b (a b c) : body PG EE TT O (q11b0b a b c) = g11b0b (T := Sm) a b (.rows c) O := by kernel_rfl
theorem h8 (a b c d e f g h i j k l m n o p q r s t u v) : body PG EE TT O (q8 a b c d e f g h i j k l m n o p q r s t u v) = g8 (T := Sm) a b c d e f g h i j k l m n o p q r s t u v O := by kernel_rfl
theorem h8b0a (a b c d e f g h i j k l m n o p q r s t u v w) : body PG EE TT O (q8b0a a b c d e f g h i j k l m n o p q r s t u v w) = g8b0a (T := Sm) a b c d e f g h i j k l m n o p q r s t u v w O := by kernel_rfl
theorem h8b2a (a b c d e f g h i j k l m n o p q r s t u v w) : body PG EE TT O (q8b2a a b c d e f g h i j k l m n o p q r s t u v w) = g8b2a (T := Sm) a b c d e f g h i j k l m n o p q r s t u v w O := by kernel_rfl
theorem h9 (a b) : body PG EE TT O (q9 a b) = g9 (T := Sm) a b O := by kernel_rfl
theorem h9b0a (a b c) : body PG EE TT O (q9b0a a b c) = g9b0a (T := Sm) a b c O := by kernel_rfl
theorem h17 (a b c d e f g h) : body PG EE TT O (q17 a b c d e f g h) = g17 (T := Sm) a b c d e f g h O := by kernel_rfl
theorem h18 (a b c d e f g h i j) : body PG EE TT O (q18 a b c d e f g h i j) = g18 (T := Sm) a b c d e f g h i j O := by kernel_rfl
theorem h18b0a (a b c d e f g h i j k) : body PG EE TT O (q18b0a a b c d e f g h i j k) = g18b0a (T := Sm) a b c d e f g h i j k O := by kernel_rfl
theorem h29 (a b) : body PG EE TT O (q29 a b) = g29 (T := Sm) a b O := by kernel_rfl
theorem h29b0a (a b c) : body PG EE TT O (q29b0a a b c) = g29b0a (T := Sm) a b c O := by kernel_rfl
theorem h10w (a) : body PG EE TT O (q10w a) = weakK (O ⟨41, [a]⟩) := by kernel_rfl
theorem h6w (a b c d e f g h i j k l) : body PG EE TT O (q6w a b c d e f g h i j k l) = weakK (O ⟨12, [a, b, c, d, e, f, g, h, i, j, k, l]⟩) := by kernel_rfl
theorem h11w (a) : body PG EE TT O (q11w a) = weakK (O ⟨73, [a]⟩) := by kernel_rfl
theorem h7w (a b c d e f g h i j k l) : body PG EE TT O (q7w a b c d e f g h i j k l) = weakK (O ⟨44, [a, b, c, d, e, f, g, h, i, j, k, l]⟩) := by kernel_rfl
end Go.Proofs.YtlfkefbhdmfllaaGreatDoor
