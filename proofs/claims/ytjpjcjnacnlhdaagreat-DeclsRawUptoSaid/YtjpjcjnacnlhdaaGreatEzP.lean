/- The program of the equations; short words for them. Printed by sq.py. -/
import Derived.Test.YtjpjcjnacnlhdaaGreatEz0
import Derived.Test.YtjpjcjnacnlhdaaGreatBc
import Derived.Test.YtjpjcjnacnlhdaaGreatProg
namespace Go.Proofs.YtjpjcjnacnlhdaaGreat
open Go.RowKit
noncomputable abbrev PG : Program := Tryz.prog
noncomputable abbrev ev : Q → Option Rs := Evl PG EE TT
abbrev nL : PV := .lit (.slice none 0 0)
noncomputable def cI (s : List PV) (v : PV) (k : List PV → Res) : Res := consK .fail s fun y r => isK .fail v y (k r)
def cC (s : List PV) (k : PV → List PV → Res) : Res := consK .fail s k
def cN (s : List PV) (k : Res) : Res := nilK .fail s k
noncomputable def cL : List PV → List PV → (List PV → Res) → Res
  | [], s, k => k s
  | v :: vs, s, k => cI s v fun s => cL vs s k
@[simp] theorem cI_cons (y : PV) (r : List PV) (v : PV) (k : List PV → Res) : cI (y :: r) v k = isK .fail v y (k r) := rfl
@[simp] theorem cC_cons (y : PV) (r : List PV) (k : PV → List PV → Res) : cC (y :: r) k = k y r := rfl
@[simp] theorem cI_nil (v : PV) (k : List PV → Res) : cI [] v k = .fail := rfl
@[simp] theorem cC_nil (k : PV → List PV → Res) : cC [] k = .fail := rfl
@[simp] theorem cN_nil (k : Res) : cN [] k = k := rfl
@[simp] theorem cN_cons (y : PV) (r : List PV) (k : Res) : cN (y :: r) k = .fail := rfl
@[simp] theorem cL_nil (s : List PV) (k : List PV → Res) : cL [] s k = k s := rfl
@[simp] theorem cL_cons (v : PV) (vs : List PV) (y : PV) (r : List PV) (k : List PV → Res) : cL (v :: vs) (y :: r) k = isK .fail v y (cL vs r k) := rfl
@[simp] theorem cL_out (v : PV) (vs : List PV) (k : List PV → Res) : cL (v :: vs) [] k = .fail := rfl
@[simp] noncomputable def bI (b : BinOp) (t : TypeId) (u v r : PV) (k : Res) : Res := binK PG .fail b t (.pv u) (.pv v) fun w => pvK .fail w fun y => isK .fail r y k
@[simp] noncomputable def bV (b : BinOp) (t : TypeId) (u v : PV) (k : PV → Res) : Res := binK PG .fail b t (.pv u) (.pv v) fun w => pvK .fail w k
@[simp] noncomputable def lV (t : TypeId) (u : PV) (k : PV → Res) : Res := lenK PG .fail t (.pv u) fun w => pvK .fail w k
@[simp] noncomputable def xV (t : TypeId) (u i : PV) (k : List PV → Res) : Res := idxK PG .fail t (.pv u) (.pv i) fun w => cptrK .fail w k
@[simp] noncomputable def sV (t : TypeId) (u i : PV) (k : PV → Res) : Res := slcK PG .fail t (.pv u) none (some (.pv i)) fun w => pvK .fail w k
@[simp] noncomputable def bA (b : BinOp) (t : TypeId) (u v : PV) (k1 k2 : Res) : Res := Res.alt (bI b t u v (.lit (.bool true)) k1) (bI b t u v (.lit (.bool false)) k2)
@[simp] noncomputable def cA (o : Option Rs) (m n : Nat) (k1 k2 : List PV → Res) : Res := Res.alt (callK o m k1) (callK o n k2)
abbrev RK (k : Nat) : Prop := RuleOk PG SS EE TT k
end Go.Proofs.YtjpjcjnacnlhdaaGreat
