/- The chapter's example: the closed run. -/
import Derived.Test.YtmgmknpgikgnlaaGreatTabs
import Derived.Test.YtmgmknpgikgnlaaGreatTb2
namespace Go.Proofs.YtmgmknpgikgnlaaGreat
open Go.RowKit

set_option maxRecDepth 100000 in
theorem run4 : evalF Tryz.prog okT tabT sp0 100000 60 4 [] [] = some (.pv (.lit (.bool true)), []) := by kernel_rfl
theorem awake4 : Sem Tryz.prog 4 [] [] (.pv (bv true)) [] := fun R => evalF_sound (sp0_ok R) okT_ok tabT_ok (fun _ => rfl) mixed 60 _ _ _ _ _ run4
end Go.Proofs.YtmgmknpgikgnlaaGreat
