/- What the entries ask and mean, written once. Printed by hq.py. -/
import Derived.Test.YtkfdklocgpgbfaaBc
import Derived.Test.YtkfdklocgpgbfaaBl
import Derived.Test.YtkfdklocgpgbfaaBs
import Derived.Test.YtkfdklocgpgbfaaProg
set_option linter.unusedVariables false
set_option linter.unusedSimpArgs false
set_option linter.unusedSectionVars false
namespace Go.Proofs.Ytkfdklocgpgbfaa
open Go.RowKit
noncomputable abbrev PG : Program := Try.prog
abbrev bt : PV := .lit (.bool true)
abbrev bf : PV := .lit (.bool false)
abbrev nS : PV := .lit (.slice none 0 0)
abbrev e0 : PV := .lit (.string ⟨#[]⟩)
abbrev i0 : PV := .lit (.int .i64 0)
abbrev i1 : PV := .lit (.int .i64 1)
abbrev i2 : PV := .lit (.int .i64 2)
abbrev i3 : PV := .lit (.int .i64 3)
abbrev i4 : PV := .lit (.int .i64 4)
abbrev i5 : PV := .lit (.int .i64 5)
abbrev i6 : PV := .lit (.int .i64 6)
abbrev i7 : PV := .lit (.int .i64 7)
abbrev i8 : PV := .lit (.int .i64 8)
abbrev i9 : PV := .lit (.int .i64 9)
abbrev nL : PV := .lit (.slice none 0 0)
noncomputable def cI (s : List PV) (v : PV) (k : List PV → Res) : Res := consK .fail s fun y r => isK .fail v y (k r)
def cC (s : List PV) (k : PV → List PV → Res) : Res := consK .fail s k
def cN (s : List PV) (k : Res) : Res := nilK .fail s k
noncomputable def cL : List PV → List PV → (List PV → Res) → Res
  | [], s, k => k s
  | v :: vs, s, k => cI s v fun s => cL vs s k
@[simp] theorem cI_cons (y : PV) (r : List PV) (v : PV) (k : List PV → Res) : cI (y :: r) v k = isK .fail v y (k r) := rfl
@[simp] theorem cC_cons (y : PV) (r : List PV) (k : PV → List PV → Res) : cC (y :: r) k = k y r := rfl
@[simp] theorem cI_nil (v : PV) (k : List PV → Res) : cI [] v k = .fail := rfl
@[simp] theorem cC_nil (k : PV → List PV → Res) : cC [] k = .fail := rfl
@[simp] theorem cN_nil (k : Res) : cN [] k = k := rfl
@[simp] theorem cN_cons (y : PV) (r : List PV) (k : Res) : cN (y :: r) k = .fail := rfl
@[simp] theorem cL_nil (s : List PV) (k : List PV → Res) : cL [] s k = k s := rfl
@[simp] theorem cL_cons (v : PV) (vs : List PV) (y : PV) (r : List PV) (k : List PV → Res) : cL (v :: vs) (y :: r) k = isK .fail v y (cL vs r k) := rfl
@[simp] theorem cL_out (v : PV) (vs : List PV) (k : List PV → Res) : cL (v :: vs) [] k = .fail := rfl
@[simp] noncomputable def bI (b : BinOp) (t : TypeId) (u v r : PV) (k : Res) : Res := binK PG .fail b t (.pv u) (.pv v) fun w => pvK .fail w fun y => isK .fail r y k
@[simp] noncomputable def bV (b : BinOp) (t : TypeId) (u v : PV) (k : PV → Res) : Res := binK PG .fail b t (.pv u) (.pv v) fun w => pvK .fail w k
@[simp] noncomputable def lV (t : TypeId) (u : PV) (k : PV → Res) : Res := lenK PG .fail t (.pv u) fun w => pvK .fail w k
@[simp] noncomputable def xV (t : TypeId) (u i : PV) (k : List PV → Res) : Res := idxK PG .fail t (.pv u) (.pv i) fun w => cptrK .fail w k
@[simp] noncomputable def sV (t : TypeId) (u i : PV) (k : PV → Res) : Res := slcK PG .fail t (.pv u) none (some (.pv i)) fun w => pvK .fail w k
@[simp] noncomputable def bA (b : BinOp) (t : TypeId) (u v : PV) (k1 k2 : Res) : Res := Res.alt (bI b t u v (.lit (.bool true)) k1) (bI b t u v (.lit (.bool false)) k2)
@[simp] noncomputable def cA (o : Option Rs) (m n : Nat) (k1 k2 : List PV → Res) : Res := Res.alt (callK o m k1) (callK o n k2)

/-- What a program may be read as. -/
class R (T : Type) where
  U : Type
  TW : BinOp → TypeId → PV → PV → T → T → T
  E3 : PV → PV → T → T → T
  L3 : PV → PV → T → T → T
  N3 : PV → PV → T → T → T
  G3 : PV → PV → T → T → T
  H3 : PV → PV → T → T → T
  K3 : PV → PV → T → T → T
  E9 : PV → PV → T → T → T
  A3 : PV → PV → (PV → T) → T
  S3 : PV → PV → (PV → T) → T
  L : TypeId → PV → (PV → T) → T
  S : TypeId → PV → Option AV → Option AV → (PV → T) → T
  P : TypeId → PV → PV → (PV → T) → T
  P0 : TypeId → PV → PV → T → T
  M : Bool → PV → PV → (PV → T) → T
  SE : PV → PV → Nat → List PV → (PV → T) → T
  MK : TypeId → PV → (PV → T) → T
  AQ : TypeId → PV → PV → (PV → T) → T
  X : TypeId → PV → PV → U → T
  J : T → T → T
  C : Nat → List PV → Nat → U → T
  C0 : Nat → List PV → U → T
  D : Nat → List PV → Nat → Nat → U → U → T
  Q0 : Nat → List PV → T → T → T
  O : Nat → List PV → T
  O0 : List PV → T
  Y : Nat → List PV → T
  z : T → U
  ms : List PV → U → U
  mz : List PV → T → U
  v1 : (PV → U) → U
  w1 : (PV → T) → U
@[simp ↓] abbrev R.v2 {T : Type} [R T] (k : PV → PV → R.U T) : R.U T := R.v1 fun a => R.v1 (k a)
@[simp ↓] abbrev R.v3 {T : Type} [R T] (k : PV → PV → PV → R.U T) : R.U T := R.v1 fun a => R.v2 (k a)
@[simp ↓] abbrev R.v4 {T : Type} [R T] (k : PV → PV → PV → PV → R.U T) : R.U T := R.v1 fun a => R.v3 (k a)
@[simp ↓] abbrev R.v5 {T : Type} [R T] (k : PV → PV → PV → PV → PV → R.U T) : R.U T := R.v1 fun a => R.v4 (k a)
@[simp ↓] abbrev R.v6 {T : Type} [R T] (k : PV → PV → PV → PV → PV → PV → R.U T) : R.U T := R.v1 fun a => R.v5 (k a)
@[simp ↓] abbrev R.w2 {T : Type} [R T] (k : PV → PV → T) : R.U T := R.v1 fun a => R.w1 (k a)
@[simp ↓] abbrev R.w3 {T : Type} [R T] (k : PV → PV → PV → T) : R.U T := R.v1 fun a => R.w2 (k a)
@[simp ↓] abbrev R.w4 {T : Type} [R T] (k : PV → PV → PV → PV → T) : R.U T := R.v1 fun a => R.w3 (k a)
@[simp ↓] abbrev R.w5 {T : Type} [R T] (k : PV → PV → PV → PV → PV → T) : R.U T := R.v1 fun a => R.w4 (k a)
@[simp ↓] abbrev R.w6 {T : Type} [R T] (k : PV → PV → PV → PV → PV → PV → T) : R.U T := R.v1 fun a => R.w5 (k a)
@[simp ↓] abbrev R.w7 {T : Type} [R T] (k : PV → PV → PV → PV → PV → PV → PV → T) : R.U T := R.v1 fun a => R.w6 (k a)
@[simp ↓] abbrev R.w8 {T : Type} [R T] (k : PV → PV → PV → PV → PV → PV → PV → PV → T) : R.U T := R.v1 fun a => R.w7 (k a)
@[simp ↓] abbrev R.w9 {T : Type} [R T] (k : PV → PV → PV → PV → PV → PV → PV → PV → PV → T) : R.U T := R.v1 fun a => R.w8 (k a)
@[simp ↓] abbrev R.w10 {T : Type} [R T] (k : PV → PV → PV → PV → PV → PV → PV → PV → PV → PV → T) : R.U T := R.v1 fun a => R.w9 (k a)
@[simp ↓] abbrev R.w11 {T : Type} [R T] (k : PV → PV → PV → PV → PV → PV → PV → PV → PV → PV → PV → T) : R.U T := R.v1 fun a => R.w10 (k a)
@[simp ↓] abbrev R.w12 {T : Type} [R T] (k : PV → PV → PV → PV → PV → PV → PV → PV → PV → PV → PV → PV → T) : R.U T := R.v1 fun a => R.w11 (k a)
@[simp ↓] abbrev R.w13 {T : Type} [R T] (k : PV → PV → PV → PV → PV → PV → PV → PV → PV → PV → PV → PV → PV → T) : R.U T := R.v1 fun a => R.w12 (k a)
@[simp ↓] abbrev R.w14 {T : Type} [R T] (k : PV → PV → PV → PV → PV → PV → PV → PV → PV → PV → PV → PV → PV → PV → T) : R.U T := R.v1 fun a => R.w13 (k a)
@[simp ↓] abbrev R.w15 {T : Type} [R T] (k : PV → PV → PV → PV → PV → PV → PV → PV → PV → PV → PV → PV → PV → PV → PV → T) : R.U T := R.v1 fun a => R.w14 (k a)
@[simp ↓] abbrev R.w16 {T : Type} [R T] (k : PV → PV → PV → PV → PV → PV → PV → PV → PV → PV → PV → PV → PV → PV → PV → PV → T) : R.U T := R.v1 fun a => R.w15 (k a)
abbrev Rf : Type := Nat → Et
abbrev Ru : Type := Nat → List PV × Et
abbrev Sm : Type := (Q → Option Rs) → Res
abbrev Su : Type := (Q → Option Rs) → List PV → Res
instance : R Rf where
  U := Ru
  TW := fun b t u v x y n => .alt (.say (.bin b t (.pv u) (.pv v) (.pv bt)) (x n)) (.say (.bin b t (.pv u) (.pv v) (.pv bf)) (y n))
  E3 := fun u v x y n => .alt (.say (.bin .eql 3 (.pv u) (.pv v) (.pv bt)) (x n)) (.say (.bin .eql 3 (.pv u) (.pv v) (.pv bf)) (y n))
  L3 := fun u v x y n => .alt (.say (.bin .lss 3 (.pv u) (.pv v) (.pv bt)) (x n)) (.say (.bin .lss 3 (.pv u) (.pv v) (.pv bf)) (y n))
  N3 := fun u v x y n => .alt (.say (.bin .neq 3 (.pv u) (.pv v) (.pv bt)) (x n)) (.say (.bin .neq 3 (.pv u) (.pv v) (.pv bf)) (y n))
  G3 := fun u v x y n => .alt (.say (.bin .gtr 3 (.pv u) (.pv v) (.pv bt)) (x n)) (.say (.bin .gtr 3 (.pv u) (.pv v) (.pv bf)) (y n))
  H3 := fun u v x y n => .alt (.say (.bin .geq 3 (.pv u) (.pv v) (.pv bt)) (x n)) (.say (.bin .geq 3 (.pv u) (.pv v) (.pv bf)) (y n))
  K3 := fun u v x y n => .alt (.say (.bin .leq 3 (.pv u) (.pv v) (.pv bt)) (x n)) (.say (.bin .leq 3 (.pv u) (.pv v) (.pv bf)) (y n))
  E9 := fun u v x y n => .alt (.say (.bin .eql 9 (.pv u) (.pv v) (.pv bt)) (x n)) (.say (.bin .eql 9 (.pv u) (.pv v) (.pv bf)) (y n))
  A3 := fun u v k n => .say (.bin .add 3 (.pv u) (.pv v) (.pv (.sym n))) (k (.sym n) (n + 1))
  S3 := fun u v k n => .say (.bin .sub 3 (.pv u) (.pv v) (.pv (.sym n))) (k (.sym n) (n + 1))
  L := fun t u k n => .say (.len t (.pv u) (.pv (.sym n))) (k (.sym n) (n + 1))
  S := fun t u a b k n => .say (.slc t (.pv u) a b (.pv (.sym n))) (k (.sym n) (n + 1))
  P := fun t u x k n => .say (.app t (.pv u) (.pv x) n) (k (.sym n) (n + 1))
  P0 := fun t u x y n => .say (.app0 t (.pv u) (.pv x)) (y n)
  M := fun t u x k n => .say (.mx t (.pv u) (.pv x) (.pv (.sym n))) (k (.sym n) (n + 1))
  SE := fun p i o c k n => .say (.set p i o c n) (k (.sym n) (n + 1))
  MK := fun t u k n => .say (.mk t (.pv u) n) (k (.sym n) (n + 1))
  AQ := fun t u x k n => .say (.apq t (.pv u) (.pv x) n) (k (.sym n) (n + 1))
  X := fun t u i k n => .say (.idx t (.pv u) (.pv i) (.cptr (k n).1)) (k n).2
  J := fun x y n => .alt (x n) (y n)
  C := fun q p s k n => .call q p s (k n).1 (k n).2
  C0 := fun q p k n => .call q p 0 (k n).1 (k n).2
  D := fun q p s t k l n => .alt (.call q p s (k n).1 (k n).2) (.call q p t (l n).1 (l n).2)
  Q0 := fun q p x y n => .alt (.call q p 0 [bt] (x n)) (.call q p 0 [bf] (y n))
  O := fun s p n => .out s p
  O0 := fun p n => .out 0 p
  Y := fun q p n => .goto q p
  z := fun x n => ([], x n)
  ms := fun p k n => (p ++ (k n).1, (k n).2)
  mz := fun p x n => (p, x n)
  v1 := fun k n => ([.sym n] ++ (k (.sym n) (n + 1)).1, (k (.sym n) (n + 1)).2)
  w1 := fun k n => ([.sym n], k (.sym n) (n + 1))
noncomputable instance : R Sm where
  U := Su
  TW := fun b t u v x y O => bA b t u v (x O) (y O)
  E3 := fun u v x y O => bA .eql 3 u v (x O) (y O)
  L3 := fun u v x y O => bA .lss 3 u v (x O) (y O)
  N3 := fun u v x y O => bA .neq 3 u v (x O) (y O)
  G3 := fun u v x y O => bA .gtr 3 u v (x O) (y O)
  H3 := fun u v x y O => bA .geq 3 u v (x O) (y O)
  K3 := fun u v x y O => bA .leq 3 u v (x O) (y O)
  E9 := fun u v x y O => bA .eql 9 u v (x O) (y O)
  A3 := fun u v k O => bV .add 3 u v fun y => k y O
  S3 := fun u v k O => bV .sub 3 u v fun y => k y O
  L := fun t u k O => lV t u fun y => k y O
  S := fun t u a b k O => slcK PG .fail t (.pv u) a b fun w => pvK .fail w fun y => k y O
  P := fun t u x k O => appK PG .fail t (.pv u) (.pv x) fun y => k y O
  P0 := fun t u x y O => app0K PG .fail t (.pv u) (.pv x) (y O)
  M := fun t u x k O => mxK PG .fail t (.pv u) (.pv x) fun w => pvK .fail w fun y => k y O
  SE := fun p i o c k O => setK .fail p i o c fun y => k y O
  MK := fun t u k O => mkK PG .fail t (.pv u) fun y => k y O
  AQ := fun t u x k O => appK PG .fail t (.pv u) (.pv x) fun y => k y O
  X := fun t u i k O => xV t u i fun s => k O s
  J := fun x y O => Res.alt (x O) (y O)
  C := fun q p s k O => callK (O ⟨q, p⟩) s fun s => k O s
  C0 := fun q p k O => callK (O ⟨q, p⟩) 0 fun s => k O s
  D := fun q p s t k l O => cA (O ⟨q, p⟩) s t (fun s => k O s) fun s => l O s
  Q0 := fun q p x y O => cA (O ⟨q, p⟩) 0 0 (fun s => cI s bt fun s => cN s (x O)) fun s => cI s bf fun s => cN s (y O)
  O := fun s p O => .ok (s, p)
  O0 := fun p O => .ok (0, p)
  Y := fun q p O => passK (O ⟨q, p⟩)
  z := fun x O s => cN s (x O)
  ms := fun p k O s => cL p s (k O)
  mz := fun p x O s => cL p s fun s => cN s (x O)
  v1 := fun k O s => cC s fun av s => k av O s
  w1 := fun k O s => cC s fun av s => cN s (k av O)
@[simp ↓] theorem m_TW {b : BinOp} {t : TypeId} {u v : PV} {x y : Sm} {O} : R.TW (T := Sm) b t u v x y O = bA b t u v (x O) (y O) := rfl
@[simp ↓] theorem m_E3 {u v : PV} {x y : Sm} {O} : R.E3 (T := Sm) u v x y O = bA .eql 3 u v (x O) (y O) := rfl
@[simp ↓] theorem m_L3 {u v : PV} {x y : Sm} {O} : R.L3 (T := Sm) u v x y O = bA .lss 3 u v (x O) (y O) := rfl
@[simp ↓] theorem m_N3 {u v : PV} {x y : Sm} {O} : R.N3 (T := Sm) u v x y O = bA .neq 3 u v (x O) (y O) := rfl
@[simp ↓] theorem m_G3 {u v : PV} {x y : Sm} {O} : R.G3 (T := Sm) u v x y O = bA .gtr 3 u v (x O) (y O) := rfl
@[simp ↓] theorem m_H3 {u v : PV} {x y : Sm} {O} : R.H3 (T := Sm) u v x y O = bA .geq 3 u v (x O) (y O) := rfl
@[simp ↓] theorem m_K3 {u v : PV} {x y : Sm} {O} : R.K3 (T := Sm) u v x y O = bA .leq 3 u v (x O) (y O) := rfl
@[simp ↓] theorem m_E9 {u v : PV} {x y : Sm} {O} : R.E9 (T := Sm) u v x y O = bA .eql 9 u v (x O) (y O) := rfl
@[simp ↓] theorem m_A3 {u v : PV} {k : PV → Sm} {O} : R.A3 (T := Sm) u v k O = bV .add 3 u v fun y => k y O := rfl
@[simp ↓] theorem m_S3 {u v : PV} {k : PV → Sm} {O} : R.S3 (T := Sm) u v k O = bV .sub 3 u v fun y => k y O := rfl
@[simp ↓] theorem m_L {t : TypeId} {u : PV} {k : PV → Sm} {O} : R.L (T := Sm) t u k O = lV t u fun y => k y O := rfl
@[simp ↓] theorem m_S {t : TypeId} {u : PV} {a b : Option AV} {k : PV → Sm} {O} : R.S (T := Sm) t u a b k O = slcK PG .fail t (.pv u) a b fun w => pvK .fail w fun y => k y O := rfl
@[simp ↓] theorem m_P {t : TypeId} {u x : PV} {k : PV → Sm} {O} : R.P (T := Sm) t u x k O = appK PG .fail t (.pv u) (.pv x) fun y => k y O := rfl
@[simp ↓] theorem m_P0 {t : TypeId} {u x : PV} {y : Sm} {O} : R.P0 (T := Sm) t u x y O = app0K PG .fail t (.pv u) (.pv x) (y O) := rfl
@[simp ↓] theorem m_M {t : Bool} {u x : PV} {k : PV → Sm} {O} : R.M (T := Sm) t u x k O = mxK PG .fail t (.pv u) (.pv x) fun w => pvK .fail w fun y => k y O := rfl
@[simp ↓] theorem m_SE {p i : PV} {o : Nat} {c : List PV} {k : PV → Sm} {O} : R.SE (T := Sm) p i o c k O = setK .fail p i o c fun y => k y O := rfl
@[simp ↓] theorem m_MK {t : TypeId} {u : PV} {k : PV → Sm} {O} : R.MK (T := Sm) t u k O = mkK PG .fail t (.pv u) fun y => k y O := rfl
@[simp ↓] theorem m_AQ {t : TypeId} {u x : PV} {k : PV → Sm} {O} : R.AQ (T := Sm) t u x k O = appK PG .fail t (.pv u) (.pv x) fun y => k y O := rfl
@[simp ↓] theorem m_X {t : TypeId} {u i : PV} {k : Su} {O} : R.X (T := Sm) t u i k O = xV t u i fun s => k O s := rfl
@[simp ↓] theorem m_J {x y : Sm} {O} : R.J (T := Sm) x y O = Res.alt (x O) (y O) := rfl
@[simp ↓] theorem m_C {q : Nat} {p : List PV} {s : Nat} {k : Su} {O} : R.C (T := Sm) q p s k O = callK (O ⟨q, p⟩) s fun s => k O s := rfl
@[simp ↓] theorem m_C0 {q : Nat} {p : List PV} {k : Su} {O} : R.C0 (T := Sm) q p k O = callK (O ⟨q, p⟩) 0 fun s => k O s := rfl
@[simp ↓] theorem m_D {q : Nat} {p : List PV} {s t : Nat} {k l : Su} {O} : R.D (T := Sm) q p s t k l O = cA (O ⟨q, p⟩) s t (fun s => k O s) fun s => l O s := rfl
@[simp ↓] theorem m_Q0 {q : Nat} {p : List PV} {x y : Sm} {O} : R.Q0 (T := Sm) q p x y O = cA (O ⟨q, p⟩) 0 0 (fun s => cI s bt fun s => cN s (x O)) fun s => cI s bf fun s => cN s (y O) := rfl
@[simp ↓] theorem m_O {s : Nat} {p : List PV} {O} : R.O (T := Sm) s p O = .ok (s, p) := rfl
@[simp ↓] theorem m_O0 {p : List PV} {O} : R.O0 (T := Sm) p O = .ok (0, p) := rfl
@[simp ↓] theorem m_Y {q : Nat} {p : List PV} {O} : R.Y (T := Sm) q p O = passK (O ⟨q, p⟩) := rfl
@[simp ↓] theorem m_z {x : Sm} {O} {s : List PV} : R.z (T := Sm) x O s = cN s (x O) := rfl
@[simp ↓] theorem m_ms {p : List PV} {k : Su} {O} {s : List PV} : R.ms (T := Sm) p k O s = cL p s (k O) := rfl
@[simp ↓] theorem m_mz {p : List PV} {x : Sm} {O} {s : List PV} : R.mz (T := Sm) p x O s = cL p s fun s => cN s (x O) := rfl
@[simp ↓] theorem m_v1 {k : PV → Su} {O} {s : List PV} : R.v1 (T := Sm) k O s = cC s fun av s => k av O s := rfl
@[simp ↓] theorem m_w1 {k : PV → Sm} {O} {s : List PV} : R.w1 (T := Sm) k O s = cC s fun av s => cN s (k av O) := rfl
section
open R
variable {T : Type} [R T]
def g9 (a : PV) : T := L 22 a fun b=>D 1 [i0,b,a,b,a] 1 0 (mz [a,b] (MK 31 b fun c=>L 31 c fun d=>C0 3 [i0,d,a,c,c,c] (ms [a,nS,nS,c,c] (w1 fun e=>J (D 4 [a,c,c,e] 0 1 (ms [a,nS,nS] (w3 fun f g h=>C0 9 [a,f,g,h] (ms [a,nS,nS,f,g,h] (w1 fun i=>O0 [i,i0])))) (ms [a,nS] (w4 fun f g h i=>C0 11 [a,f,g,h,i] (ms [a,nS,f,g,h,i] (w1 fun j=>O0 [j,i0]))))) (D 4 [a,c,c,e] 2 3 (ms [a,nS] (w4 fun f g h i=>C0 16 [a,f,g,h,i] (ms [a,nS,f,g,h,i] (w1 fun j=>O0 [j,i0])))) (ms [a] (w5 fun f g h i j=>C0 18 [a,f,g,h,i,j] (ms [a,f,g,h,i,j] (w1 fun k=>O0 [k,i0]))))))))) (w2 fun c d=>O0 [c,d])
def g9b0a (a b c d e : PV) : T := L3 a b (X 22 c a (w1 fun f=>L 31 f fun g=>D 2 [i0,g,f,d,a,b,c,e] 1 0 (mz [a,b,c,d,e] (A3 a i1 fun h=>Y 1 [h,b,c,d,e])) (w2 fun h i=>O0 [h,i]))) (O 1 [e,d])
def g9b2a (a b c d e f g h : PV) : T := L3 a b (X 31 c a (w1 fun i=>L3 i i0 (O0 [nS,i2]) (H3 i d (O0 [nS,i2]) (A3 a i1 fun j=>Y 2 [j,b,c,d,e,f,g,h])))) (O 1 [e,f,g,d,h])
def g9b4a (a b c d e f : PV) : T := L3 a b (X 31 f a (w1 fun g=>SE f a 0 [(iv (-1))] fun h=>A3 a i1 fun i=>Y 3 [i,b,c,d,e,h])) (O0 [c,nS,nS,d,e,f])
def g17a (a b c d : PV) : T := L 22 a fun e=>J (D 5 [i0,e,a,b,c,d,i0] 0 1 (ms [a,nS,nS] (w4 fun f g h i=>O0 [a,nS,nS,f,g,h])) (ms [a,nS] (w5 fun f g h i j=>O 1 [a,nS,f,g,h,j]))) (D 5 [i0,e,a,b,c,d,i0] 2 3 (ms [a,nS] (w5 fun f g h i j=>O 2 [a,nS,f,g,h,j])) (ms [a] (w6 fun f g h i j k=>O 3 [a,f,g,h,j,k])))
def g17ab0a (a b c d e f g : PV) : T := L3 a b (X 31 d a (w1 fun h=>E3 h i0 (D 23 [a,g,c,d,e,f] 0 1 (v1 fun i=>ms [c,nS] (w4 fun j k l m=>A3 a i1 fun n=>Y 7 [n,b,c,j,k,l,i,m])) (v1 fun i=>ms [c] (w5 fun j k l m n=>A3 a i1 fun o=>Y 8 [o,b,c,j,k,l,i,m,n]))) (A3 a i1 fun i=>Y 5 [i,b,c,d,e,f,g]))) (O0 [c,nS,nS,d,e,f,g])
def g17ab0b (a b c d e f g h : PV) : T := L3 a b (X 31 d a (w1 fun i=>E3 i i0 (D 30 [a,g,c,d,e,f,h] 0 1 (v1 fun j=>ms [c] (v3 fun k l m=>ms [h] (w1 fun n=>A3 a i1 fun o=>Y 8 [o,b,c,k,l,m,j,n,h]))) (v1 fun j=>ms [c] (w5 fun k l m n o=>A3 a i1 fun p=>Y 8 [p,b,c,k,l,m,j,n,o]))) (A3 a i1 fun j=>Y 6 [j,b,c,d,e,f,g,h]))) (O 1 [c,nS,d,e,f,g,h])
def g17ab0c (a b c d e f g h : PV) : T := L3 a b (X 31 d a (w1 fun i=>E3 i i0 (D 36 [a,g,c,d,e,f,h] 0 1 (v1 fun j=>ms [c,nS] (w4 fun k l m n=>A3 a i1 fun o=>Y 7 [o,b,c,k,l,m,j,n])) (v1 fun j=>ms [c] (w5 fun k l m n o=>A3 a i1 fun p=>Y 8 [p,b,c,k,l,m,j,n,o]))) (A3 a i1 fun j=>Y 7 [j,b,c,d,e,f,g,h]))) (O 2 [c,nS,d,e,f,g,h])
def g17ab0d (a b c d e f g h i : PV) : T := L3 a b (X 31 d a (w1 fun j=>E3 j i0 (D 43 [a,g,c,d,e,f,h,i] 0 1 (v1 fun k=>ms [c] (v3 fun l m n=>ms [i] (w1 fun o=>A3 a i1 fun p=>Y 8 [p,b,c,l,m,n,k,o,i]))) (v1 fun k=>ms [c] (w5 fun l m n o p=>A3 a i1 fun q=>Y 8 [q,b,c,l,m,n,k,o,p]))) (A3 a i1 fun k=>Y 8 [k,b,c,d,e,f,g,h,i]))) (O 3 [c,d,e,f,g,h,i])
def g18a (a b c d : PV) : T := C0 10 [a,b,c,d] (mz [a,nS,nS,b,c,d,nS] (O0 [a,nS,nS,b,c,d,nS]))
def g18ab0a (a b c d : PV) : T := O0 [a,nS,nS,b,c,d,nS]
def g18b (a b c d e : PV) : T := L 22 e fun f=>MK 34 f fun g=>D 12 [a,b,c,d,e,g] 0 1 (ms [a,nS,b,c,d,e] (v1 fun h=>mz [nS] (O0 [a,nS,b,c,d,e,nS]))) (ms [a,nS,b,c,d,e] (w2 fun h i=>O0 [a,nS,b,c,d,e,i]))
def g18bb0a (a b c d e f : PV) : T := L 22 e fun g=>L3 i0 g (L 22 a fun h=>D 14 [i0,h,a,b,c,d,e,f] 1 0 (ms [a,nS,b,c,d,e] (v1 fun i=>mz [nS] (Y 12 [a,b,c,d,e,i]))) (ms [a,nS,b,c,d,e] (w2 fun i j=>Y 13 [a,b,c,d,e,i,j]))) (O0 [a,nS,b,c,d,e,f,nS])
def g18bb0b (a b c d e f g : PV) : T := L 22 g fun h=>L 22 e fun i=>L3 h i (L 22 a fun j=>D 15 [i0,j,a,b,c,d,e,f,g] 1 0 (ms [a,nS,b,c,d,e] (v1 fun k=>mz [g] (Y 13 [a,b,c,d,e,k,g]))) (ms [a,nS,b,c,d,e] (w2 fun k l=>Y 13 [a,b,c,d,e,k,l]))) (O 1 [a,nS,b,c,d,e,f,g])
def g18bb2a (a b c d e f g h : PV) : T := L3 a b (X 31 f a (w1 fun i=>J (X 34 h i (mz [bt] (A3 a i1 fun j=>Y 14 [j,b,c,d,e,f,g,h]))) (X 34 h i (mz [bf] (X 22 g i (w1 fun j=>X 31 j i0 (w1 fun k=>E3 k a (D 49 [j,c,d,e,f,g,h] 0 0 (mz [c,nS,d,e,f,g,h,bt] (SE h i 0 [bt] fun l=>AQ 22 nS (.rows [[j]]) fun m=>O0 [c,nS,d,e,f,g,l,m])) (mz [c,nS,d,e,f,g,h,bf] (A3 a i1 fun l=>Y 14 [l,b,c,d,e,f,g,h]))) (A3 a i1 fun l=>Y 14 [l,b,c,d,e,f,g,h])))))))) (O 1 [c,nS,d,e,f,g,h,nS])
def g18bb2b (a b c d e f g h i : PV) : T := L3 a b (X 31 f a (w1 fun j=>J (X 34 h j (mz [bt] (A3 a i1 fun k=>Y 15 [k,b,c,d,e,f,g,h,i]))) (X 34 h j (mz [bf] (X 22 g j (w1 fun k=>X 31 k i0 (w1 fun l=>E3 l a (D 49 [k,c,d,e,f,g,h] 0 0 (mz [c,nS,d,e,f,g,h,bt] (SE h j 0 [bt] fun m=>AQ 22 i (.rows [[k]]) fun n=>O0 [c,nS,d,e,f,g,m,n])) (mz [c,nS,d,e,f,g,h,bf] (A3 a i1 fun m=>Y 15 [m,b,c,d,e,f,g,h,i]))) (A3 a i1 fun m=>Y 15 [m,b,c,d,e,f,g,h,i])))))))) (O 1 [c,nS,d,e,f,g,h,i])
def g18c (a b c d e : PV) : T := C 17 [a,b,c,d,e] 2 (mz [a,nS,b,c,d,e,nS] (O0 [a,nS,b,c,d,e,nS]))
def g18cb0a (a b c d e : PV) : T := O 2 [a,nS,b,c,d,e,nS]
def g18d (a b c d e f : PV) : T := L 22 f fun g=>MK 34 g fun h=>D 19 [a,b,c,d,e,f,h] 0 1 (ms [a,b,c,d,e,f] (v1 fun i=>mz [nS] (O0 [a,b,c,d,e,f,nS]))) (ms [a,b,c,d,e,f] (w2 fun i j=>O0 [a,b,c,d,e,f,j]))
def g18db0a (a b c d e f g : PV) : T := L 22 f fun h=>L3 i0 h (L 22 a fun i=>D 21 [i0,i,a,b,c,d,e,f,g] 3 2 (ms [a,b,c,d,e,f] (v1 fun j=>mz [nS] (Y 19 [a,b,c,d,e,f,j]))) (ms [a,b,c,d,e,f] (w2 fun j k=>Y 20 [a,b,c,d,e,f,j,k]))) (O0 [a,b,c,d,e,f,g,nS])
def g18db0b (a b c d e f g h : PV) : T := L 22 h fun i=>L 22 f fun j=>L3 i j (L 22 a fun k=>D 22 [i0,k,a,b,c,d,e,f,g,h] 1 0 (ms [a,b,c,d,e,f] (v1 fun l=>mz [h] (Y 20 [a,b,c,d,e,f,l,h]))) (ms [a,b,c,d,e,f] (w2 fun l m=>Y 20 [a,b,c,d,e,f,l,m]))) (O 1 [a,b,c,d,e,f,g,h])
def g18db2a (a b c d e f g h i : PV) : T := L3 a b (X 31 f a (w1 fun j=>J (X 34 i j (mz [bt] (A3 a i1 fun k=>Y 21 [k,b,c,d,e,f,g,h,i]))) (X 34 i j (mz [bf] (X 22 h j (w1 fun k=>X 31 k i0 (w1 fun l=>E3 l a (D 52 [k,c,d,e,f,g,h,i] 0 0 (mz [c,d,e,f,g,h,i,bt] (SE i j 0 [bt] fun m=>AQ 22 nS (.rows [[k]]) fun n=>O 2 [c,d,e,f,g,h,m,n])) (mz [c,d,e,f,g,h,i,bf] (A3 a i1 fun m=>Y 21 [m,b,c,d,e,f,g,h,i]))) (A3 a i1 fun m=>Y 21 [m,b,c,d,e,f,g,h,i])))))))) (O 3 [c,d,e,f,g,h,i,nS])
def g18db2b (a b c d e f g h i j : PV) : T := L3 a b (X 31 f a (w1 fun k=>J (X 34 i k (mz [bt] (A3 a i1 fun l=>Y 22 [l,b,c,d,e,f,g,h,i,j]))) (X 34 i k (mz [bf] (X 22 h k (w1 fun l=>X 31 l i0 (w1 fun m=>E3 m a (D 52 [l,c,d,e,f,g,h,i] 0 0 (mz [c,d,e,f,g,h,i,bt] (SE i k 0 [bt] fun n=>AQ 22 j (.rows [[l]]) fun o=>O0 [c,d,e,f,g,h,n,o])) (mz [c,d,e,f,g,h,i,bf] (A3 a i1 fun n=>Y 22 [n,b,c,d,e,f,g,h,i,j]))) (A3 a i1 fun n=>Y 22 [n,b,c,d,e,f,g,h,i,j])))))))) (O 1 [c,d,e,f,g,h,i,j])
def g25a (a b c d e f : PV) : T := A3 b i1 fun g=>X 31 d a (w1 fun h=>SE d a 0 [g] fun i=>X 31 e a (w1 fun j=>SE e a 0 [g] fun k=>AQ 31 nS (.rows [[a]]) fun l=>X 22 c a (w1 fun m=>L 31 m fun n=>J (D 24 [i0,n,m,a,c,i,k,f,l,g] 0 1 (ms [c,nS] (v3 fun o p q=>ms [l] (v1 fun r=>mz [a] (X 31 p a (w1 fun s=>X 31 o a (w1 fun t=>L3 s t (O0 [r,c,nS,o,p,q,l]) (C0 55 [a,l] (ms [l] (w1 fun u=>S 31 l (some (.pv u)) none fun v=>C0 57 [u,v,l] (mz [l,u,v] (C0 130 [u,v,l] (ms [u,v,l] (w1 fun w=>S 31 l none (some (.pv u)) fun x=>L 31 w fun y=>C0 28 [i0,y,w,w,c,o,p,q,x] (ms [c,nS,o,p] (v1 fun z=>mz [x,w] (AQ 22 nS (.rows [[w]]) fun a0=>O 1 [r,c,o,p,z,x,a0])))))))))))))))) (ms [c] (v3 fun o p q=>ms [l] (v2 fun r s=>mz [a] (X 31 p a (w1 fun t=>X 31 o a (w1 fun u=>L3 t u (O 1 [r,c,o,p,q,l,s]) (C0 55 [a,l] (ms [l] (w1 fun v=>S 31 l (some (.pv v)) none fun w=>C0 57 [v,w,l] (mz [l,v,w] (C0 130 [v,w,l] (ms [v,w,l] (w1 fun x=>S 31 l none (some (.pv v)) fun y=>L 31 x fun z=>C0 29 [i0,z,x,x,c,o,p,q,y,s] (ms [c,o,p] (v1 fun a0=>mz [y,s,x] (AQ 22 s (.rows [[x]]) fun b0=>O 1 [r,c,o,p,a0,y,b0]))))))))))))))))) (D 24 [i0,n,m,a,c,i,k,f,l,g] 2 3 (ms [c,nS] (v5 fun o p q r s=>mz [a] (X 31 p a (w1 fun t=>X 31 o a (w1 fun u=>L3 t u (O0 [r,c,nS,o,p,q,s]) (C0 55 [a,s] (ms [s] (w1 fun v=>S 31 s (some (.pv v)) none fun w=>C0 57 [v,w,s] (mz [s,v,w] (C0 130 [v,w,s] (ms [v,w,s] (w1 fun x=>S 31 s none (some (.pv v)) fun y=>L 31 x fun z=>C0 28 [i0,z,x,x,c,o,p,q,y] (ms [c,nS,o,p] (v1 fun a0=>mz [y,x] (AQ 22 nS (.rows [[x]]) fun b0=>O 1 [r,c,o,p,a0,y,b0]))))))))))))))) (ms [c] (v6 fun o p q r s t=>mz [a] (X 31 p a (w1 fun u=>X 31 o a (w1 fun v=>L3 u v (O 1 [r,c,o,p,q,s,t]) (C0 55 [a,s] (ms [s] (w1 fun w=>S 31 s (some (.pv w)) none fun x=>C0 57 [w,x,s] (mz [s,w,x] (C0 130 [w,x,s] (ms [w,x,s] (w1 fun y=>S 31 s none (some (.pv w)) fun z=>L 31 y fun a0=>C0 29 [i0,a0,y,y,c,o,p,q,z,t] (ms [c,o,p] (v1 fun b0=>mz [z,t,y] (AQ 22 t (.rows [[y]]) fun c0=>O 1 [r,c,o,p,b0,z,c0])))))))))))))))))))
def g25ab0a (a b c d e f g h i j : PV) : T := L3 a b (X 31 c a (w1 fun k=>X 31 f k (w1 fun l=>E3 l i0 (D 36 [k,j,e,f,g,h,i] 0 1 (v1 fun m=>ms [e,nS] (w4 fun n o p q=>X 31 o d (w1 fun r=>X 31 o k (w1 fun s=>M true r s fun t=>SE o d 0 [t] fun u=>A3 a i1 fun v=>Y 26 [v,b,c,d,e,n,u,p,m,q])))) (v1 fun m=>ms [e] (w5 fun n o p q r=>X 31 o d (w1 fun s=>X 31 o k (w1 fun t=>M true s t fun u=>SE o d 0 [u] fun v=>A3 a i1 fun w=>Y 27 [w,b,c,d,e,n,v,p,m,q,r]))))) (X 31 h k (w1 fun m=>L3 m i0 (X 31 g d (w1 fun n=>M true n l fun o=>SE g d 0 [o] fun p=>A3 a i1 fun q=>Y 24 [q,b,c,d,e,f,p,h,i,j])) (A3 a i1 fun n=>Y 24 [n,b,c,d,e,f,g,h,i,j])))))) (O0 [e,nS,f,g,h,i,j,d])
def g25ab0b (a b c d e f g h i j k : PV) : T := L3 a b (X 31 c a (w1 fun l=>X 31 f l (w1 fun m=>E3 m i0 (D 43 [l,j,e,f,g,h,i,k] 0 1 (v1 fun n=>ms [e] (v3 fun o p q=>ms [k] (w1 fun r=>X 31 p d (w1 fun s=>X 31 p l (w1 fun t=>M true s t fun u=>SE p d 0 [u] fun v=>A3 a i1 fun w=>Y 27 [w,b,c,d,e,o,v,q,n,r,k]))))) (v1 fun n=>ms [e] (w5 fun o p q r s=>X 31 p d (w1 fun t=>X 31 p l (w1 fun u=>M true t u fun v=>SE p d 0 [v] fun w=>A3 a i1 fun x=>Y 27 [x,b,c,d,e,o,w,q,n,r,s]))))) (X 31 h l (w1 fun n=>L3 n i0 (X 31 g d (w1 fun o=>M true o m fun p=>SE g d 0 [p] fun q=>A3 a i1 fun r=>Y 25 [r,b,c,d,e,f,q,h,i,j,k])) (A3 a i1 fun o=>Y 25 [o,b,c,d,e,f,g,h,i,j,k])))))) (O 1 [e,f,g,h,i,j,k,d])
def g25ab0c (a b c d e f g h i j : PV) : T := L3 a b (X 31 c a (w1 fun k=>X 31 f k (w1 fun l=>E3 l i0 (D 36 [k,i,e,f,g,h,j] 0 1 (v1 fun m=>ms [e,nS] (w4 fun n o p q=>X 31 o d (w1 fun r=>X 31 o k (w1 fun s=>M true r s fun t=>SE o d 0 [t] fun u=>A3 a i1 fun v=>Y 26 [v,b,c,d,e,n,u,p,m,q])))) (v1 fun m=>ms [e] (w5 fun n o p q r=>X 31 o d (w1 fun s=>X 31 o k (w1 fun t=>M true s t fun u=>SE o d 0 [u] fun v=>A3 a i1 fun w=>Y 27 [w,b,c,d,e,n,v,p,m,q,r]))))) (X 31 h k (w1 fun m=>L3 m i0 (X 31 g d (w1 fun n=>M true n l fun o=>SE g d 0 [o] fun p=>A3 a i1 fun q=>Y 26 [q,b,c,d,e,f,p,h,i,j])) (A3 a i1 fun n=>Y 26 [n,b,c,d,e,f,g,h,i,j])))))) (O 2 [e,nS,f,g,h,i,j,d])
def g25ab0d (a b c d e f g h i j k : PV) : T := L3 a b (X 31 c a (w1 fun l=>X 31 f l (w1 fun m=>E3 m i0 (D 43 [l,i,e,f,g,h,j,k] 0 1 (v1 fun n=>ms [e] (v3 fun o p q=>ms [k] (w1 fun r=>X 31 p d (w1 fun s=>X 31 p l (w1 fun t=>M true s t fun u=>SE p d 0 [u] fun v=>A3 a i1 fun w=>Y 27 [w,b,c,d,e,o,v,q,n,r,k]))))) (v1 fun n=>ms [e] (w5 fun o p q r s=>X 31 p d (w1 fun t=>X 31 p l (w1 fun u=>M true t u fun v=>SE p d 0 [v] fun w=>A3 a i1 fun x=>Y 27 [x,b,c,d,e,o,w,q,n,r,s]))))) (X 31 h l (w1 fun n=>L3 n i0 (X 31 g d (w1 fun o=>M true o m fun p=>SE g d 0 [p] fun q=>A3 a i1 fun r=>Y 27 [r,b,c,d,e,f,q,h,i,j,k])) (A3 a i1 fun o=>Y 27 [o,b,c,d,e,f,g,h,i,j,k])))))) (O 3 [e,f,g,h,i,j,k,d])
def g25ab3a (a b c d e f g h i : PV) : T := L3 a b (X 31 c a (w1 fun j=>X 31 h j (w1 fun k=>SE h j 0 [i0] fun l=>A3 a i1 fun m=>Y 28 [m,b,c,d,e,f,g,l,i]))) (O0 [e,nS,f,g,h,i,d])
def g25ab3b (a b c d e f g h i j : PV) : T := L3 a b (X 31 c a (w1 fun k=>L 22 j fun l=>X 31 h k (w1 fun m=>SE h k 0 [l] fun n=>A3 a i1 fun o=>Y 29 [o,b,c,d,e,f,g,n,i,j]))) (O0 [e,f,g,h,i,j,d])
def g25b (a b c d e f g : PV) : T := A3 b i1 fun h=>X 31 d a (w1 fun i=>SE d a 0 [h] fun j=>X 31 e a (w1 fun k=>SE e a 0 [h] fun l=>AQ 31 nS (.rows [[a]]) fun m=>X 22 c a (w1 fun n=>L 31 n fun o=>J (D 31 [i0,o,n,a,c,j,l,f,m,g,h] 0 1 (ms [c] (v3 fun p q r=>ms [m,g] (v1 fun s=>mz [a] (X 31 q a (w1 fun t=>X 31 p a (w1 fun u=>L3 t u (O0 [s,c,p,q,r,g,m]) (C0 55 [a,m] (ms [m] (w1 fun v=>S 31 m (some (.pv v)) none fun w=>C0 57 [v,w,m] (mz [m,v,w] (C0 130 [v,w,m] (ms [v,w,m] (w1 fun x=>S 31 m none (some (.pv v)) fun y=>L 31 x fun z=>C0 29 [i0,z,x,x,c,p,q,r,y,g] (ms [c,p,q] (v1 fun a0=>mz [y,g,x] (AQ 22 g (.rows [[x]]) fun b0=>O 1 [s,c,p,q,a0,y,b0])))))))))))))))) (ms [c] (v3 fun p q r=>ms [m] (v2 fun s t=>mz [a] (X 31 q a (w1 fun u=>X 31 p a (w1 fun v=>L3 u v (O 1 [s,c,p,q,r,m,t]) (C0 55 [a,m] (ms [m] (w1 fun w=>S 31 m (some (.pv w)) none fun x=>C0 57 [w,x,m] (mz [m,w,x] (C0 130 [w,x,m] (ms [w,x,m] (w1 fun y=>S 31 m none (some (.pv w)) fun z=>L 31 y fun a0=>C0 29 [i0,a0,y,y,c,p,q,r,z,t] (ms [c,p,q] (v1 fun b0=>mz [z,t,y] (AQ 22 t (.rows [[y]]) fun c0=>O 1 [s,c,p,q,b0,z,c0]))))))))))))))))) (D 31 [i0,o,n,a,c,j,l,f,m,g,h] 2 3 (ms [c] (v3 fun p q r=>ms [g] (v2 fun s t=>mz [a] (X 31 q a (w1 fun u=>X 31 p a (w1 fun v=>L3 u v (O0 [s,c,p,q,r,g,t]) (C0 55 [a,t] (ms [t] (w1 fun w=>S 31 t (some (.pv w)) none fun x=>C0 57 [w,x,t] (mz [t,w,x] (C0 130 [w,x,t] (ms [w,x,t] (w1 fun y=>S 31 t none (some (.pv w)) fun z=>L 31 y fun a0=>C0 29 [i0,a0,y,y,c,p,q,r,z,g] (ms [c,p,q] (v1 fun b0=>mz [z,g,y] (AQ 22 g (.rows [[y]]) fun c0=>O 1 [s,c,p,q,b0,z,c0])))))))))))))))) (ms [c] (v6 fun p q r s t u=>mz [a] (X 31 q a (w1 fun v=>X 31 p a (w1 fun w=>L3 v w (O 1 [s,c,p,q,r,t,u]) (C0 55 [a,t] (ms [t] (w1 fun x=>S 31 t (some (.pv x)) none fun y=>C0 57 [x,y,t] (mz [t,x,y] (C0 130 [x,y,t] (ms [x,y,t] (w1 fun z=>S 31 t none (some (.pv x)) fun a0=>L 31 z fun b0=>C0 29 [i0,b0,z,z,c,p,q,r,a0,u] (ms [c,p,q] (v1 fun c0=>mz [a0,u,z] (AQ 22 u (.rows [[z]]) fun d0=>O 1 [s,c,p,q,c0,a0,d0])))))))))))))))))))
def g25bb0a (a b c d e f g h i j k : PV) : T := L3 a b (X 31 c a (w1 fun l=>X 31 f l (w1 fun m=>E3 m i0 (D 43 [l,k,e,f,g,h,i,j] 0 1 (v1 fun n=>ms [e] (v3 fun o p q=>ms [j] (w1 fun r=>X 31 p d (w1 fun s=>X 31 p l (w1 fun t=>M true s t fun u=>SE p d 0 [u] fun v=>A3 a i1 fun w=>Y 33 [w,b,c,d,e,o,v,q,j,n,r]))))) (v1 fun n=>ms [e] (w5 fun o p q r s=>X 31 p d (w1 fun t=>X 31 p l (w1 fun u=>M true t u fun v=>SE p d 0 [v] fun w=>A3 a i1 fun x=>Y 34 [x,b,c,d,e,o,w,q,n,r,s]))))) (X 31 h l (w1 fun n=>L3 n i0 (X 31 g d (w1 fun o=>M true o m fun p=>SE g d 0 [p] fun q=>A3 a i1 fun r=>Y 31 [r,b,c,d,e,f,q,h,i,j,k])) (A3 a i1 fun o=>Y 31 [o,b,c,d,e,f,g,h,i,j,k])))))) (O0 [e,f,g,h,i,j,k,d])
def g25bb0b (a b c d e f g h i j k : PV) : T := L3 a b (X 31 c a (w1 fun l=>X 31 f l (w1 fun m=>E3 m i0 (D 43 [l,j,e,f,g,h,i,k] 0 1 (v1 fun n=>ms [e] (v3 fun o p q=>ms [k] (w1 fun r=>X 31 p d (w1 fun s=>X 31 p l (w1 fun t=>M true s t fun u=>SE p d 0 [u] fun v=>A3 a i1 fun w=>Y 34 [w,b,c,d,e,o,v,q,n,r,k]))))) (v1 fun n=>ms [e] (w5 fun o p q r s=>X 31 p d (w1 fun t=>X 31 p l (w1 fun u=>M true t u fun v=>SE p d 0 [v] fun w=>A3 a i1 fun x=>Y 34 [x,b,c,d,e,o,w,q,n,r,s]))))) (X 31 h l (w1 fun n=>L3 n i0 (X 31 g d (w1 fun o=>M true o m fun p=>SE g d 0 [p] fun q=>A3 a i1 fun r=>Y 32 [r,b,c,d,e,f,q,h,i,j,k])) (A3 a i1 fun o=>Y 32 [o,b,c,d,e,f,g,h,i,j,k])))))) (O 1 [e,f,g,h,i,j,k,d])
def g25bb0c (a b c d e f g h i j k : PV) : T := L3 a b (X 31 c a (w1 fun l=>X 31 f l (w1 fun m=>E3 m i0 (D 43 [l,j,e,f,g,h,k,i] 0 1 (v1 fun n=>ms [e] (v3 fun o p q=>ms [i] (w1 fun r=>X 31 p d (w1 fun s=>X 31 p l (w1 fun t=>M true s t fun u=>SE p d 0 [u] fun v=>A3 a i1 fun w=>Y 33 [w,b,c,d,e,o,v,q,i,n,r]))))) (v1 fun n=>ms [e] (w5 fun o p q r s=>X 31 p d (w1 fun t=>X 31 p l (w1 fun u=>M true t u fun v=>SE p d 0 [v] fun w=>A3 a i1 fun x=>Y 34 [x,b,c,d,e,o,w,q,n,r,s]))))) (X 31 h l (w1 fun n=>L3 n i0 (X 31 g d (w1 fun o=>M true o m fun p=>SE g d 0 [p] fun q=>A3 a i1 fun r=>Y 33 [r,b,c,d,e,f,q,h,i,j,k])) (A3 a i1 fun o=>Y 33 [o,b,c,d,e,f,g,h,i,j,k])))))) (O 2 [e,f,g,h,i,j,k,d])
def g25bb0d (a b c d e f g h i j k : PV) : T := L3 a b (X 31 c a (w1 fun l=>X 31 f l (w1 fun m=>E3 m i0 (D 43 [l,i,e,f,g,h,j,k] 0 1 (v1 fun n=>ms [e] (v3 fun o p q=>ms [k] (w1 fun r=>X 31 p d (w1 fun s=>X 31 p l (w1 fun t=>M true s t fun u=>SE p d 0 [u] fun v=>A3 a i1 fun w=>Y 34 [w,b,c,d,e,o,v,q,n,r,k]))))) (v1 fun n=>ms [e] (w5 fun o p q r s=>X 31 p d (w1 fun t=>X 31 p l (w1 fun u=>M true t u fun v=>SE p d 0 [v] fun w=>A3 a i1 fun x=>Y 34 [x,b,c,d,e,o,w,q,n,r,s]))))) (X 31 h l (w1 fun n=>L3 n i0 (X 31 g d (w1 fun o=>M true o m fun p=>SE g d 0 [p] fun q=>A3 a i1 fun r=>Y 34 [r,b,c,d,e,f,q,h,i,j,k])) (A3 a i1 fun o=>Y 34 [o,b,c,d,e,f,g,h,i,j,k])))))) (O 3 [e,f,g,h,i,j,k,d])
def g25bb3a (a b c d e f g h i j : PV) : T := L3 a b (X 31 c a (w1 fun k=>L 22 j fun l=>X 31 h k (w1 fun m=>SE h k 0 [l] fun n=>A3 a i1 fun o=>Y 29 [o,b,c,d,e,f,g,n,i,j]))) (O0 [e,f,g,h,i,j,d])
def g25c (a b c d e f g : PV) : T := A3 b i1 fun h=>X 31 d a (w1 fun i=>SE d a 0 [h] fun j=>X 31 e a (w1 fun k=>SE e a 0 [h] fun l=>AQ 31 g (.rows [[a]]) fun m=>X 22 c a (w1 fun n=>L 31 n fun o=>J (D 24 [i0,o,n,a,c,j,l,f,m,h] 0 1 (ms [c,nS] (v3 fun p q r=>ms [m] (v1 fun s=>mz [a] (X 31 q a (w1 fun t=>X 31 p a (w1 fun u=>L3 t u (O0 [s,c,nS,p,q,r,m]) (C0 55 [a,m] (ms [m] (w1 fun v=>S 31 m (some (.pv v)) none fun w=>C0 57 [v,w,m] (mz [m,v,w] (C0 130 [v,w,m] (ms [v,w,m] (w1 fun x=>S 31 m none (some (.pv v)) fun y=>L 31 x fun z=>C0 28 [i0,z,x,x,c,p,q,r,y] (ms [c,nS,p,q] (v1 fun a0=>mz [y,x] (AQ 22 nS (.rows [[x]]) fun b0=>O 1 [s,c,p,q,a0,y,b0])))))))))))))))) (ms [c] (v3 fun p q r=>ms [m] (v2 fun s t=>mz [a] (X 31 q a (w1 fun u=>X 31 p a (w1 fun v=>L3 u v (O 1 [s,c,p,q,r,m,t]) (C0 55 [a,m] (ms [m] (w1 fun w=>S 31 m (some (.pv w)) none fun x=>C0 57 [w,x,m] (mz [m,w,x] (C0 130 [w,x,m] (ms [w,x,m] (w1 fun y=>S 31 m none (some (.pv w)) fun z=>L 31 y fun a0=>C0 29 [i0,a0,y,y,c,p,q,r,z,t] (ms [c,p,q] (v1 fun b0=>mz [z,t,y] (AQ 22 t (.rows [[y]]) fun c0=>O 1 [s,c,p,q,b0,z,c0]))))))))))))))))) (D 24 [i0,o,n,a,c,j,l,f,m,h] 2 3 (ms [c,nS] (v5 fun p q r s t=>mz [a] (X 31 q a (w1 fun u=>X 31 p a (w1 fun v=>L3 u v (O0 [s,c,nS,p,q,r,t]) (C0 55 [a,t] (ms [t] (w1 fun w=>S 31 t (some (.pv w)) none fun x=>C0 57 [w,x,t] (mz [t,w,x] (C0 130 [w,x,t] (ms [w,x,t] (w1 fun y=>S 31 t none (some (.pv w)) fun z=>L 31 y fun a0=>C0 28 [i0,a0,y,y,c,p,q,r,z] (ms [c,nS,p,q] (v1 fun b0=>mz [z,y] (AQ 22 nS (.rows [[y]]) fun c0=>O 1 [s,c,p,q,b0,z,c0]))))))))))))))) (ms [c] (v6 fun p q r s t u=>mz [a] (X 31 q a (w1 fun v=>X 31 p a (w1 fun w=>L3 v w (O 1 [s,c,p,q,r,t,u]) (C0 55 [a,t] (ms [t] (w1 fun x=>S 31 t (some (.pv x)) none fun y=>C0 57 [x,y,t] (mz [t,x,y] (C0 130 [x,y,t] (ms [x,y,t] (w1 fun z=>S 31 t none (some (.pv x)) fun a0=>L 31 z fun b0=>C0 29 [i0,b0,z,z,c,p,q,r,a0,u] (ms [c,p,q] (v1 fun c0=>mz [a0,u,z] (AQ 22 u (.rows [[z]]) fun d0=>O 1 [s,c,p,q,c0,a0,d0])))))))))))))))))))
def g25cb0a (a b c d e f g h i j : PV) : T := L3 a b (X 31 c a (w1 fun k=>X 31 f k (w1 fun l=>E3 l i0 (D 36 [k,j,e,f,g,h,i] 0 1 (v1 fun m=>ms [e,nS] (w4 fun n o p q=>X 31 o d (w1 fun r=>X 31 o k (w1 fun s=>M true r s fun t=>SE o d 0 [t] fun u=>A3 a i1 fun v=>Y 26 [v,b,c,d,e,n,u,p,m,q])))) (v1 fun m=>ms [e] (w5 fun n o p q r=>X 31 o d (w1 fun s=>X 31 o k (w1 fun t=>M true s t fun u=>SE o d 0 [u] fun v=>A3 a i1 fun w=>Y 27 [w,b,c,d,e,n,v,p,m,q,r]))))) (X 31 h k (w1 fun m=>L3 m i0 (X 31 g d (w1 fun n=>M true n l fun o=>SE g d 0 [o] fun p=>A3 a i1 fun q=>Y 24 [q,b,c,d,e,f,p,h,i,j])) (A3 a i1 fun n=>Y 24 [n,b,c,d,e,f,g,h,i,j])))))) (O0 [e,nS,f,g,h,i,j,d])
def g25cb0b (a b c d e f g h i j k : PV) : T := L3 a b (X 31 c a (w1 fun l=>X 31 f l (w1 fun m=>E3 m i0 (D 43 [l,j,e,f,g,h,i,k] 0 1 (v1 fun n=>ms [e] (v3 fun o p q=>ms [k] (w1 fun r=>X 31 p d (w1 fun s=>X 31 p l (w1 fun t=>M true s t fun u=>SE p d 0 [u] fun v=>A3 a i1 fun w=>Y 27 [w,b,c,d,e,o,v,q,n,r,k]))))) (v1 fun n=>ms [e] (w5 fun o p q r s=>X 31 p d (w1 fun t=>X 31 p l (w1 fun u=>M true t u fun v=>SE p d 0 [v] fun w=>A3 a i1 fun x=>Y 27 [x,b,c,d,e,o,w,q,n,r,s]))))) (X 31 h l (w1 fun n=>L3 n i0 (X 31 g d (w1 fun o=>M true o m fun p=>SE g d 0 [p] fun q=>A3 a i1 fun r=>Y 25 [r,b,c,d,e,f,q,h,i,j,k])) (A3 a i1 fun o=>Y 25 [o,b,c,d,e,f,g,h,i,j,k])))))) (O 1 [e,f,g,h,i,j,k,d])
def g25cb0c (a b c d e f g h i j : PV) : T := L3 a b (X 31 c a (w1 fun k=>X 31 f k (w1 fun l=>E3 l i0 (D 36 [k,i,e,f,g,h,j] 0 1 (v1 fun m=>ms [e,nS] (w4 fun n o p q=>X 31 o d (w1 fun r=>X 31 o k (w1 fun s=>M true r s fun t=>SE o d 0 [t] fun u=>A3 a i1 fun v=>Y 26 [v,b,c,d,e,n,u,p,m,q])))) (v1 fun m=>ms [e] (w5 fun n o p q r=>X 31 o d (w1 fun s=>X 31 o k (w1 fun t=>M true s t fun u=>SE o d 0 [u] fun v=>A3 a i1 fun w=>Y 27 [w,b,c,d,e,n,v,p,m,q,r]))))) (X 31 h k (w1 fun m=>L3 m i0 (X 31 g d (w1 fun n=>M true n l fun o=>SE g d 0 [o] fun p=>A3 a i1 fun q=>Y 26 [q,b,c,d,e,f,p,h,i,j])) (A3 a i1 fun n=>Y 26 [n,b,c,d,e,f,g,h,i,j])))))) (O 2 [e,nS,f,g,h,i,j,d])
def g25cb0d (a b c d e f g h i j k : PV) : T := L3 a b (X 31 c a (w1 fun l=>X 31 f l (w1 fun m=>E3 m i0 (D 43 [l,i,e,f,g,h,j,k] 0 1 (v1 fun n=>ms [e] (v3 fun o p q=>ms [k] (w1 fun r=>X 31 p d (w1 fun s=>X 31 p l (w1 fun t=>M true s t fun u=>SE p d 0 [u] fun v=>A3 a i1 fun w=>Y 27 [w,b,c,d,e,o,v,q,n,r,k]))))) (v1 fun n=>ms [e] (w5 fun o p q r s=>X 31 p d (w1 fun t=>X 31 p l (w1 fun u=>M true t u fun v=>SE p d 0 [v] fun w=>A3 a i1 fun x=>Y 27 [x,b,c,d,e,o,w,q,n,r,s]))))) (X 31 h l (w1 fun n=>L3 n i0 (X 31 g d (w1 fun o=>M true o m fun p=>SE g d 0 [p] fun q=>A3 a i1 fun r=>Y 27 [r,b,c,d,e,f,q,h,i,j,k])) (A3 a i1 fun o=>Y 27 [o,b,c,d,e,f,g,h,i,j,k])))))) (O 3 [e,f,g,h,i,j,k,d])
def g25cb3a (a b c d e f g h i : PV) : T := L3 a b (X 31 c a (w1 fun j=>X 31 h j (w1 fun k=>SE h j 0 [i0] fun l=>A3 a i1 fun m=>Y 28 [m,b,c,d,e,f,g,l,i]))) (O0 [e,nS,f,g,h,i,d])
def g25cb3b (a b c d e f g h i j : PV) : T := L3 a b (X 31 c a (w1 fun k=>L 22 j fun l=>X 31 h k (w1 fun m=>SE h k 0 [l] fun n=>A3 a i1 fun o=>Y 29 [o,b,c,d,e,f,g,n,i,j]))) (O0 [e,f,g,h,i,j,d])
def g25d (a b c d e f g h : PV) : T := A3 b i1 fun i=>X 31 d a (w1 fun j=>SE d a 0 [i] fun k=>X 31 e a (w1 fun l=>SE e a 0 [i] fun m=>AQ 31 g (.rows [[a]]) fun n=>X 22 c a (w1 fun o=>L 31 o fun p=>J (D 31 [i0,p,o,a,c,k,m,f,n,h,i] 0 1 (ms [c] (v3 fun q r s=>ms [n,h] (v1 fun t=>mz [a] (X 31 r a (w1 fun u=>X 31 q a (w1 fun v=>L3 u v (O0 [t,c,q,r,s,h,n]) (C0 55 [a,n] (ms [n] (w1 fun w=>S 31 n (some (.pv w)) none fun x=>C0 57 [w,x,n] (mz [n,w,x] (C0 130 [w,x,n] (ms [w,x,n] (w1 fun y=>S 31 n none (some (.pv w)) fun z=>L 31 y fun a0=>C0 29 [i0,a0,y,y,c,q,r,s,z,h] (ms [c,q,r] (v1 fun b0=>mz [z,h,y] (AQ 22 h (.rows [[y]]) fun c0=>O 1 [t,c,q,r,b0,z,c0])))))))))))))))) (ms [c] (v3 fun q r s=>ms [n] (v2 fun t u=>mz [a] (X 31 r a (w1 fun v=>X 31 q a (w1 fun w=>L3 v w (O 1 [t,c,q,r,s,n,u]) (C0 55 [a,n] (ms [n] (w1 fun x=>S 31 n (some (.pv x)) none fun y=>C0 57 [x,y,n] (mz [n,x,y] (C0 130 [x,y,n] (ms [x,y,n] (w1 fun z=>S 31 n none (some (.pv x)) fun a0=>L 31 z fun b0=>C0 29 [i0,b0,z,z,c,q,r,s,a0,u] (ms [c,q,r] (v1 fun c0=>mz [a0,u,z] (AQ 22 u (.rows [[z]]) fun d0=>O 1 [t,c,q,r,c0,a0,d0]))))))))))))))))) (D 31 [i0,p,o,a,c,k,m,f,n,h,i] 2 3 (ms [c] (v3 fun q r s=>ms [h] (v2 fun t u=>mz [a] (X 31 r a (w1 fun v=>X 31 q a (w1 fun w=>L3 v w (O0 [t,c,q,r,s,h,u]) (C0 55 [a,u] (ms [u] (w1 fun x=>S 31 u (some (.pv x)) none fun y=>C0 57 [x,y,u] (mz [u,x,y] (C0 130 [x,y,u] (ms [x,y,u] (w1 fun z=>S 31 u none (some (.pv x)) fun a0=>L 31 z fun b0=>C0 29 [i0,b0,z,z,c,q,r,s,a0,h] (ms [c,q,r] (v1 fun c0=>mz [a0,h,z] (AQ 22 h (.rows [[z]]) fun d0=>O 1 [t,c,q,r,c0,a0,d0])))))))))))))))) (ms [c] (v6 fun q r s t u v=>mz [a] (X 31 r a (w1 fun w=>X 31 q a (w1 fun x=>L3 w x (O 1 [t,c,q,r,s,u,v]) (C0 55 [a,u] (ms [u] (w1 fun y=>S 31 u (some (.pv y)) none fun z=>C0 57 [y,z,u] (mz [u,y,z] (C0 130 [y,z,u] (ms [y,z,u] (w1 fun a0=>S 31 u none (some (.pv y)) fun b0=>L 31 a0 fun c0=>C0 29 [i0,c0,a0,a0,c,q,r,s,b0,v] (ms [c,q,r] (v1 fun d0=>mz [b0,v,a0] (AQ 22 v (.rows [[a0]]) fun f0=>O 1 [t,c,q,r,d0,b0,f0])))))))))))))))))))
def g25db0a (a b c d e f g h i j k : PV) : T := L3 a b (X 31 c a (w1 fun l=>X 31 f l (w1 fun m=>E3 m i0 (D 43 [l,k,e,f,g,h,i,j] 0 1 (v1 fun n=>ms [e] (v3 fun o p q=>ms [j] (w1 fun r=>X 31 p d (w1 fun s=>X 31 p l (w1 fun t=>M true s t fun u=>SE p d 0 [u] fun v=>A3 a i1 fun w=>Y 33 [w,b,c,d,e,o,v,q,j,n,r]))))) (v1 fun n=>ms [e] (w5 fun o p q r s=>X 31 p d (w1 fun t=>X 31 p l (w1 fun u=>M true t u fun v=>SE p d 0 [v] fun w=>A3 a i1 fun x=>Y 34 [x,b,c,d,e,o,w,q,n,r,s]))))) (X 31 h l (w1 fun n=>L3 n i0 (X 31 g d (w1 fun o=>M true o m fun p=>SE g d 0 [p] fun q=>A3 a i1 fun r=>Y 31 [r,b,c,d,e,f,q,h,i,j,k])) (A3 a i1 fun o=>Y 31 [o,b,c,d,e,f,g,h,i,j,k])))))) (O0 [e,f,g,h,i,j,k,d])
def g25db0b (a b c d e f g h i j k : PV) : T := L3 a b (X 31 c a (w1 fun l=>X 31 f l (w1 fun m=>E3 m i0 (D 43 [l,j,e,f,g,h,i,k] 0 1 (v1 fun n=>ms [e] (v3 fun o p q=>ms [k] (w1 fun r=>X 31 p d (w1 fun s=>X 31 p l (w1 fun t=>M true s t fun u=>SE p d 0 [u] fun v=>A3 a i1 fun w=>Y 34 [w,b,c,d,e,o,v,q,n,r,k]))))) (v1 fun n=>ms [e] (w5 fun o p q r s=>X 31 p d (w1 fun t=>X 31 p l (w1 fun u=>M true t u fun v=>SE p d 0 [v] fun w=>A3 a i1 fun x=>Y 34 [x,b,c,d,e,o,w,q,n,r,s]))))) (X 31 h l (w1 fun n=>L3 n i0 (X 31 g d (w1 fun o=>M true o m fun p=>SE g d 0 [p] fun q=>A3 a i1 fun r=>Y 32 [r,b,c,d,e,f,q,h,i,j,k])) (A3 a i1 fun o=>Y 32 [o,b,c,d,e,f,g,h,i,j,k])))))) (O 1 [e,f,g,h,i,j,k,d])
def g25db0c (a b c d e f g h i j k : PV) : T := L3 a b (X 31 c a (w1 fun l=>X 31 f l (w1 fun m=>E3 m i0 (D 43 [l,j,e,f,g,h,k,i] 0 1 (v1 fun n=>ms [e] (v3 fun o p q=>ms [i] (w1 fun r=>X 31 p d (w1 fun s=>X 31 p l (w1 fun t=>M true s t fun u=>SE p d 0 [u] fun v=>A3 a i1 fun w=>Y 33 [w,b,c,d,e,o,v,q,i,n,r]))))) (v1 fun n=>ms [e] (w5 fun o p q r s=>X 31 p d (w1 fun t=>X 31 p l (w1 fun u=>M true t u fun v=>SE p d 0 [v] fun w=>A3 a i1 fun x=>Y 34 [x,b,c,d,e,o,w,q,n,r,s]))))) (X 31 h l (w1 fun n=>L3 n i0 (X 31 g d (w1 fun o=>M true o m fun p=>SE g d 0 [p] fun q=>A3 a i1 fun r=>Y 33 [r,b,c,d,e,f,q,h,i,j,k])) (A3 a i1 fun o=>Y 33 [o,b,c,d,e,f,g,h,i,j,k])))))) (O 2 [e,f,g,h,i,j,k,d])
def g25db0d (a b c d e f g h i j k : PV) : T := L3 a b (X 31 c a (w1 fun l=>X 31 f l (w1 fun m=>E3 m i0 (D 43 [l,i,e,f,g,h,j,k] 0 1 (v1 fun n=>ms [e] (v3 fun o p q=>ms [k] (w1 fun r=>X 31 p d (w1 fun s=>X 31 p l (w1 fun t=>M true s t fun u=>SE p d 0 [u] fun v=>A3 a i1 fun w=>Y 34 [w,b,c,d,e,o,v,q,n,r,k]))))) (v1 fun n=>ms [e] (w5 fun o p q r s=>X 31 p d (w1 fun t=>X 31 p l (w1 fun u=>M true t u fun v=>SE p d 0 [v] fun w=>A3 a i1 fun x=>Y 34 [x,b,c,d,e,o,w,q,n,r,s]))))) (X 31 h l (w1 fun n=>L3 n i0 (X 31 g d (w1 fun o=>M true o m fun p=>SE g d 0 [p] fun q=>A3 a i1 fun r=>Y 34 [r,b,c,d,e,f,q,h,i,j,k])) (A3 a i1 fun o=>Y 34 [o,b,c,d,e,f,g,h,i,j,k])))))) (O 3 [e,f,g,h,i,j,k,d])
def g25db3a (a b c d e f g h i j : PV) : T := L3 a b (X 31 c a (w1 fun k=>L 22 j fun l=>X 31 h k (w1 fun m=>SE h k 0 [l] fun n=>A3 a i1 fun o=>Y 29 [o,b,c,d,e,f,g,n,i,j]))) (O0 [e,f,g,h,i,j,d])
def g29a (a b c d e f g : PV) : T := L 31 a fun h=>J (C 50 [i0,h,a,b,c,d,e,f,g] 1 (mz [b,nS,c,d,e,f,g] (O0 [b,nS,c,d,e,f,g,bt]))) (D 50 [i0,h,a,b,c,d,e,f,g] 0 0 (mz [b,nS,c,d,e,f,g,bt] (O0 [b,nS,c,d,e,f,g,bt])) (mz [b,nS,c,d,e,f,g,bf] (O0 [b,nS,c,d,e,f,g,bf])))
def g29ab0a (a b c d e f g h i : PV) : T := L3 a b (X 31 c a (w1 fun j=>X 22 d j (w1 fun k=>L 31 k fun l=>J (C 51 [i0,l,k,j,a,b,c,d,e,f,g,h,i] 1 (mz [d,nS,e,f,g,h,i,a,b,c] (A3 a i1 fun m=>Y 50 [m,b,c,d,e,f,g,h,i]))) (D 51 [i0,l,k,j,a,b,c,d,e,f,g,h,i] 0 0 (mz [d,nS,e,f,g,h,i,bt] (O0 [d,nS,e,f,g,h,i,bt])) (mz [d,nS,e,f,g,h,i,bf] (O0 [d,nS,e,f,g,h,i,bf])))))) (O 1 [d,nS,e,f,g,h,i])
def g29ab2a (a b c d e f g h i j k l m : PV) : T := L3 a b (X 31 c a (w1 fun n=>X 31 k n (w1 fun o=>X 31 k d (w1 fun p=>N3 o p (J (X 34 m o (mz [bt] (A3 a i1 fun q=>Y 51 [q,b,c,d,e,f,g,h,i,j,k,l,m]))) (X 34 m o (mz [bf] (O0 [h,nS,i,j,k,l,m,bf])))) (A3 a i1 fun q=>Y 51 [q,b,c,d,e,f,g,h,i,j,k,l,m]))))) (O 1 [h,nS,i,j,k,l,m,e,f,g])
def g29b (a b c d e f g h : PV) : T := L 31 a fun i=>J (C 53 [i0,i,a,b,c,d,e,f,g,h] 1 (mz [b,c,d,e,f,g,h] (O0 [b,c,d,e,f,g,h,bt]))) (D 53 [i0,i,a,b,c,d,e,f,g,h] 0 0 (mz [b,c,d,e,f,g,h,bt] (O0 [b,c,d,e,f,g,h,bt])) (mz [b,c,d,e,f,g,h,bf] (O0 [b,c,d,e,f,g,h,bf])))
def g29bb0a (a b c d e f g h i j : PV) : T := L3 a b (X 31 c a (w1 fun k=>X 22 d k (w1 fun l=>L 31 l fun m=>J (C 54 [i0,m,l,k,a,b,c,d,e,f,g,h,i,j] 1 (mz [d,e,f,g,h,i,j,a,b,c] (A3 a i1 fun n=>Y 53 [n,b,c,d,e,f,g,h,i,j]))) (D 54 [i0,m,l,k,a,b,c,d,e,f,g,h,i,j] 0 0 (mz [d,e,f,g,h,i,j,bt] (O0 [d,e,f,g,h,i,j,bt])) (mz [d,e,f,g,h,i,j,bf] (O0 [d,e,f,g,h,i,j,bf])))))) (O 1 [d,e,f,g,h,i,j])
def g29bb2a (a b c d e f g h i j k l m n : PV) : T := L3 a b (X 31 c a (w1 fun o=>X 31 k o (w1 fun p=>X 31 k d (w1 fun q=>N3 p q (J (X 34 n p (mz [bt] (A3 a i1 fun r=>Y 54 [r,b,c,d,e,f,g,h,i,j,k,l,m,n]))) (X 34 n p (mz [bf] (O0 [h,i,j,k,l,m,n,bf])))) (A3 a i1 fun r=>Y 54 [r,b,c,d,e,f,g,h,i,j,k,l,m,n]))))) (O 1 [h,i,j,k,l,m,n,e,f,g])
def g26a (a b : PV) : T := L 31 b fun c=>D 56 [i0,c,a,b] 1 0 (mz [b] (O0 [b,(iv (-1))])) (ms [b] (w1 fun d=>O0 [b,d]))
def g26ab0a (a b c d : PV) : T := L3 a b (X 31 d a (w1 fun e=>E3 c e (O0 [d,a]) (A3 a i1 fun f=>Y 56 [f,b,c,d]))) (O 1 [d])
def g28a (a b c : PV) : T := O0 [c,a,b]
def g8 (a : PV) : T := L 22 a fun b=>J (C 59 [i0,b,a,a] 1 (mz [a] (K3 b (iv 40) (O0 [bt]) (O0 [bf])))) (Q0 59 [i0,b,a,a] (O0 [bt]) (O0 [bf]))
def g8b0a (a b c d : PV) : T := L3 a b (X 22 c a (w1 fun e=>L 31 e fun f=>G3 f (iv 100) (O0 [bf]) (A3 a i1 fun g=>Y 59 [g,b,c,d]))) (O 1 [d])
def g10 (a : PV) : T := J (C 61 [i0,a] 1 (mz [a] (C0 128 [a] (w1 fun b=>L 22 a fun c=>MK 34 c fun d=>D 63 [i0,a,b,d] 0 1 (v1 fun e=>mz [nS] (O0 [nS,bt])) (w2 fun e f=>O 1 [f,bt]))))) (D 61 [i0,a] 0 0 (v1 fun b=>mz [bt] (O0 [b,bt])) (v1 fun b=>mz [bf] (O0 [b,bf])))
def g10b0a (a b : PV) : T := L 22 b fun c=>L3 a c (J (C 62 [i0,b,a] 1 (mz [a,b] (A3 a i1 fun d=>Y 61 [d,b]))) (D 62 [i0,b,a] 0 0 (v1 fun d=>mz [bt] (O0 [d,bt])) (v1 fun d=>mz [bf] (O0 [d,bf])))) (O 1 [b])
def g10b2a (a b c : PV) : T := X 22 b c (w1 fun d=>L 31 d fun e=>L3 a e (X 31 d a (w1 fun f=>L3 f i0 (O0 [nS,bf]) (L 22 b fun g=>H3 f g (O0 [nS,bf]) (A3 a i1 fun h=>Y 62 [h,b,c])))) (O 1 [c,b]))
def g10b4a (a b c d : PV) : T := L 22 b fun e=>L3 a e (C0 65 [i0,b,(iv (-1)),c,a,d] (ms [d] (v1 fun f=>mz [b,c,nS,a] (H3 f i0 (D 71 [i0,b,c,f,a,d] 0 1 (v1 fun g=>mz [nS,nS,a,b,c] (A3 a i1 fun h=>Y 64 [h,b,c,(.rows [[nS]]),g])) (v1 fun g=>ms [nS] (v1 fun h=>mz [a,b,c] (A3 a i1 fun i=>Y 64 [i,b,c,(.rows [[h]]),g])))) (A3 a i1 fun g=>Y 63 [g,b,c,d]))))) (O0 [d,nS])
def g10b4b (a b c d e : PV) : T := L 22 b fun f=>L3 a f (C0 66 [i0,b,(iv (-1)),c,d,a,e] (ms [e] (v1 fun g=>mz [b,c,d,a] (H3 g i0 (D 72 [i0,b,c,g,d,a,e] 0 1 (v1 fun h=>mz [d,nS,a,b,c] (P 22 d (.rows [[nS]]) fun i=>A3 a i1 fun j=>Y 64 [j,b,c,i,h])) (v1 fun h=>ms [d] (v1 fun i=>mz [a,b,c] (P 22 d (.rows [[i]]) fun j=>A3 a i1 fun k=>Y 64 [k,b,c,j,h])))) (A3 a i1 fun h=>Y 64 [h,b,c,d,e]))))) (O 1 [e,d])
def g10b6a (a b c d e f : PV) : T := L 22 b fun g=>L3 a g (L3 c i0 (J (X 34 f a (mz [bt] (D 67 [i0,b,d,a,e,c,f] 0 0 (mz [f,bt,a,b,d,nS,e,c] (A3 a i1 fun h=>Y 65 [h,b,a,d,e,f])) (mz [f,bf,a,b,d,nS,e,c] (A3 a i1 fun h=>Y 65 [h,b,c,d,e,f]))))) (X 34 f a (mz [bf] (D 68 [i0,b,d,a,e,c,f] 0 0 (mz [f,bt,a,b,d,nS,e,c] (A3 a i1 fun h=>Y 65 [h,b,a,d,e,f])) (mz [f,bf,a,b,d,nS,e,c] (A3 a i1 fun h=>Y 65 [h,b,c,d,e,f])))))) (O0 [f,c,b,d,nS,e])) (O0 [f,c,b,d,nS,e])
def g10b6b (a b c d e f g : PV) : T := L 22 b fun h=>L3 a h (L3 c i0 (J (X 34 g a (mz [bt] (D 69 [i0,b,d,a,e,f,c,g] 0 0 (mz [g,bt,a,b,d,e,f,c] (A3 a i1 fun i=>Y 66 [i,b,a,d,e,f,g])) (mz [g,bf,a,b,d,e,f,c] (A3 a i1 fun i=>Y 66 [i,b,c,d,e,f,g]))))) (X 34 g a (mz [bf] (D 70 [i0,b,d,a,e,f,c,g] 0 0 (mz [g,bt,a,b,d,e,f,c] (A3 a i1 fun i=>Y 66 [i,b,a,d,e,f,g])) (mz [g,bf,a,b,d,e,f,c] (A3 a i1 fun i=>Y 66 [i,b,c,d,e,f,g])))))) (O0 [g,c,b,d,e,f])) (O0 [g,c,b,d,e,f])
def g10b8a (a b c d e f g : PV) : T := L 22 b fun h=>L3 a h (O0 [g,bf,d,b,c,nS,e,f]) (O0 [g,bf,d,b,c,nS,e,f])
def g10b8b (a b c d e f g : PV) : T := L 22 b fun h=>L3 a h (X 32 c d (w1 fun i=>J (X 34 i a (mz [bt] (J (X 34 g a (mz [bt] (A3 a i1 fun j=>Y 68 [j,b,c,d,e,f,g]))) (X 34 g a (mz [bf] (Q0 78 [c,d,a] (A3 a i1 fun j=>Y 68 [j,b,c,d,e,f,g]) (A3 a i1 fun j=>Y 67 [j,b,c,d,e,f,g]))))))) (X 34 i a (mz [bf] (A3 a i1 fun j=>Y 68 [j,b,c,d,e,f,g]))))) (O0 [g,bt,d,b,c,nS,e,f])
def g10b8c (a b c d e f g h : PV) : T := L 22 b fun i=>L3 a i (O0 [h,bf,d,b,c,e,f,g]) (O0 [h,bf,d,b,c,e,f,g])
def g10b8d (a b c d e f g h : PV) : T := L 22 b fun i=>L3 a i (X 32 c d (w1 fun j=>J (X 34 j a (mz [bt] (J (X 34 h a (mz [bt] (A3 a i1 fun k=>Y 70 [k,b,c,d,e,f,g,h]))) (X 34 h a (mz [bf] (Q0 78 [c,d,a] (A3 a i1 fun k=>Y 70 [k,b,c,d,e,f,g,h]) (A3 a i1 fun k=>Y 69 [k,b,c,d,e,f,g,h]))))))) (X 34 j a (mz [bf] (A3 a i1 fun k=>Y 70 [k,b,c,d,e,f,g,h]))))) (O0 [h,bt,d,b,c,e,f,g])
def g10b10a (a b c d e f : PV) : T := L 22 b fun g=>L3 a g (Q0 78 [c,d,a] (J (X 34 f a (mz [bt] (SE f a 0 [bt] fun h=>A3 a i1 fun i=>Y 73 [i,b,c,d,(.rows [[a]]),e,h]))) (X 34 f a (mz [bf] (SE f a 0 [bt] fun h=>A3 a i1 fun i=>Y 73 [i,b,c,d,(.rows [[a]]),e,h])))) (A3 a i1 fun h=>Y 71 [h,b,c,d,e,f])) (O0 [f,nS,nS,e,b,c])
def g10b10b (a b c d e f g : PV) : T := L 22 b fun h=>L3 a h (Q0 78 [c,d,a] (J (X 34 g a (mz [bt] (SE g a 0 [bt] fun i=>A3 a i1 fun j=>Y 74 [j,b,c,d,(.rows [[a]]),e,f,i]))) (X 34 g a (mz [bf] (SE g a 0 [bt] fun i=>A3 a i1 fun j=>Y 74 [j,b,c,d,(.rows [[a]]),e,f,i])))) (A3 a i1 fun i=>Y 72 [i,b,c,d,e,f,g])) (O0 [g,e,nS,f,b,c])
def g10b10c (a b c d e f g : PV) : T := L 22 b fun h=>L3 a h (Q0 78 [c,d,a] (P 31 e (.rows [[a]]) fun i=>J (X 34 g a (mz [bt] (SE g a 0 [bt] fun j=>A3 a i1 fun k=>Y 73 [k,b,c,d,i,f,j]))) (X 34 g a (mz [bf] (SE g a 0 [bt] fun j=>A3 a i1 fun k=>Y 73 [k,b,c,d,i,f,j])))) (A3 a i1 fun i=>Y 73 [i,b,c,d,e,f,g])) (O 1 [g,nS,e,f,b,c])
def g10b10d (a b c d e f g h : PV) : T := L 22 b fun i=>L3 a i (Q0 78 [c,d,a] (P 31 e (.rows [[a]]) fun j=>J (X 34 h a (mz [bt] (SE h a 0 [bt] fun k=>A3 a i1 fun l=>Y 74 [l,b,c,d,j,f,g,k]))) (X 34 h a (mz [bf] (SE h a 0 [bt] fun k=>A3 a i1 fun l=>Y 74 [l,b,c,d,j,f,g,k])))) (A3 a i1 fun j=>Y 74 [j,b,c,d,e,f,g,h])) (O 1 [h,f,e,g,b,c])
def g11 (a b : PV) : T := L 22 a fun c=>L 22 b fun d=>N3 c d (O0 [bf]) (J (C 76 [i0,a,b] 1 (z (O0 [bt]))) (Q0 76 [i0,a,b] (O0 [bt]) (O0 [bf])))
def g11b0a (a b c : PV) : T := L 22 b fun d=>L3 a d (X 22 b a (w1 fun e=>L 31 e fun f=>X 22 c a (w1 fun g=>L 31 g fun h=>N3 f h (O0 [bf]) (J (C 77 [i0,b,a,c] 1 (mz [a,b,c] (A3 a i1 fun i=>Y 76 [i,b,c]))) (Q0 77 [i0,b,a,c] (O0 [bt]) (O0 [bf])))))) (O 1 [])
def g11b2a (a b c d : PV) : T := X 22 b c (w1 fun e=>L 31 e fun f=>L3 a f (X 31 e a (w1 fun g=>X 22 d c (w1 fun h=>X 31 h a (w1 fun i=>N3 g i (O0 [bf]) (A3 a i1 fun j=>Y 77 [j,b,c,d]))))) (O 1 [c,b,d]))
def g19 (a b c : PV) : T := E3 b c (O0 [bt]) (X 32 a b (w1 fun d=>J (X 34 d c (mz [bt] (X 32 a c (w1 fun e=>J (X 34 e b (mz [bt] (O0 [bt]))) (X 34 e b (mz [bf] (O0 [bf]))))))) (X 34 d c (mz [bf] (O0 [bf])))))
def g6 (a : PV) : T := Q0 127 [] (L 36 a fun b=>G3 b (iv 20) (O0 [bt]) (J (C 80 [i0,b,a,a] 1 (mz [a] (C0 131 [a] (w1 fun c=>D 132 [c] 0 0 (v1 fun d=>mz [bt] (C0 129 [a] (w1 fun e=>Q0 75 [e,c] (C0 101 [a] (w1 fun f=>Q0 75 [f,d] (O0 [bt]) (O0 [bf]))) (O0 [bf])))) (v1 fun d=>mz [bf] (C0 129 [a] (w1 fun e=>Q0 75 [e,c] (C0 101 [a] (w1 fun f=>Q0 75 [f,d] (O0 [bt]) (O0 [bf]))) (O0 [bf])))))))) (Q0 80 [i0,b,a,a] (O0 [bt]) (O0 [bf])))) (O0 [bf])
def g6b0a (a b c d : PV) : T := L3 a b (X 36 c a (w13 fun e f g h i j k l m n o p q=>Q0 81 [f,g,h,i,j,k,l,m,n,o,p,(iv 200)] (A3 a i1 fun r=>Y 80 [r,b,c,d]) (O0 [bt]))) (O 1 [d])
def g13 (a b c d e f g h i j k l : PV) : T := A3 l i1 fun m=>C0 82 [a,b,c,d,e,f,g,h,i,j,k,m] (w1 fun n=>K3 n l (O0 [bt]) (O0 [bf]))
def g20 (a b c d e f g h i j k l : PV) : T := L 37 g fun m=>A3 i1 m fun n=>C0 83 [i0,n,l,a,b,c,d,e,f,g,h,i,j,k] (ms [a,b,c,d,e,f,g,h,i,j,k] (v1 fun o=>mz [l] (C0 84 [i0,o,l,a,b,c,d,e,f,g,h,i,j,k] (ms [a,b,c,d,e,f,g,h,i,j,k] (v1 fun p=>mz [l] (C0 85 [i0,p,l,a,b,c,d,e,f,g,h,i,j,k] (ms [a,b,c,d,e,f,g,h,i,j,k] (w1 fun q=>O0 [q]))))))))
def g20b0a (a b c d e f g h i j k l m n : PV) : T := L 40 k fun o=>L3 a o (L3 b c (X 40 k a (w11 fun p q r s t u v w x y z=>S3 c b fun a0=>C0 82 [p,q,r,s,t,u,v,w,x,y,z,a0] (w1 fun b0=>A3 b b0 fun c0=>A3 a i1 fun d0=>Y 83 [d0,c0,c,d,e,f,g,h,i,j,k,l,m,n]))) (O0 [d,e,f,g,h,i,j,k,l,m,n,b,c])) (O0 [d,e,f,g,h,i,j,k,l,m,n,b,c])
def g20b2a (a b c d e f g h i j k l m n : PV) : T := L 36 m fun o=>L3 a o (L3 b c (X 36 m a (w13 fun p q r s t u v w x y z a0 b0=>S3 c b fun c0=>C0 82 [q,r,s,t,u,v,w,x,y,z,a0,c0] (w1 fun d0=>A3 i1 d0 fun f0=>A3 b f0 fun g0=>A3 a i1 fun h0=>Y 84 [h0,g0,c,d,e,f,g,h,i,j,k,l,m,n]))) (O0 [d,e,f,g,h,i,j,k,l,m,n,b,c])) (O0 [d,e,f,g,h,i,j,k,l,m,n,b,c])
def g20b4a (a b c d e f g h i j k l m n : PV) : T := L 41 l fun o=>L3 a o (L3 b c (X 41 l a (w16 fun p q r s t u v w x y z a0 b0 c0 d0 f0=>S3 c b fun g0=>L 66 s fun h0=>C0 82 [u,v,w,x,y,z,a0,b0,c0,d0,f0,g0] (w1 fun j0=>A3 i1 j0 fun k0=>A3 k0 h0 fun l0=>A3 b l0 fun m0=>A3 a i1 fun n0=>Y 85 [n0,m0,c,d,e,f,g,h,i,j,k,l,m,n]))) (O0 [d,e,f,g,h,i,j,k,l,m,n,b])) (O0 [d,e,f,g,h,i,j,k,l,m,n,b])
def g14 (a : PV) : T := D 87 [i0,a] 0 1 (mz [nS] (O0 [nS])) (w1 fun b=>O 1 [b])
def g14b0a (a b : PV) : T := L 36 b fun c=>L3 a c (X 36 b a (w13 fun d e f g h i j k l m n o p=>C0 102 [e,f,g,h,i,j,k,l,m,n,o] (w1 fun q=>D 89 [i0,q,b,a] 0 1 (mz [nS,nS,a,b] (A3 a i1 fun r=>Y 88 [r,b,(.rows [[nS]])])) (ms [nS] (v1 fun r=>mz [a,b] (A3 a i1 fun s=>Y 88 [s,b,(.rows [[r]])])))))) (O0 [nS])
def g14b0b (a b c : PV) : T := L 36 b fun d=>L3 a d (X 36 b a (w13 fun e f g h i j k l m n o p q=>C0 102 [f,g,h,i,j,k,l,m,n,o,p] (w1 fun r=>D 90 [i0,r,b,c,a] 0 1 (mz [c,nS,a,b] (P 22 c (.rows [[nS]]) fun s=>A3 a i1 fun t=>Y 88 [t,b,s])) (ms [c] (v1 fun s=>mz [a,b] (P 22 c (.rows [[s]]) fun t=>A3 a i1 fun u=>Y 88 [u,b,t])))))) (O 1 [c])
def g14b2a (a b c d : PV) : T := L 55 b fun e=>L3 a e (D 93 [i0,c,b,a,d] 0 1 (mz [a,b,c,nS,nS,d] (A3 a i1 fun f=>Y 89 [f,b,c,d])) (ms [a,b,c] (v1 fun f=>mz [nS,d] (A3 a i1 fun g=>Y 91 [g,b,c,f,d])))) (O0 [nS,nS,d,c])
def g14b2b (a b c d e : PV) : T := L 55 b fun f=>L3 a f (D 94 [i0,c,b,a,d,e] 0 2 (mz [a,b,c,nS,d,e] (A3 a i1 fun g=>Y 90 [g,b,c,d,e])) (ms [a,b,c] (v1 fun g=>mz [d,e] (A3 a i1 fun h=>Y 92 [h,b,c,g,d,e])))) (O0 [d,nS,e,c])
def g14b2c (a b c d e : PV) : T := L 55 b fun f=>L3 a f (D 95 [i0,c,b,a,d,e] 1 3 (mz [a,b,c,d,nS,e] (A3 a i1 fun g=>Y 91 [g,b,c,d,e])) (ms [a,b,c] (v1 fun g=>mz [nS,e] (A3 a i1 fun h=>Y 91 [h,b,c,g,e])))) (O 1 [nS,d,e,c])
def g14b2d (a b c d e f : PV) : T := L 55 b fun g=>L3 a g (D 96 [i0,c,b,a,d,e,f] 0 1 (mz [a,b,c,d,e,f] (A3 a i1 fun h=>Y 92 [h,b,c,d,e,f])) (ms [a,b,c] (v1 fun h=>mz [e,f] (A3 a i1 fun i=>Y 92 [i,b,c,h,e,f])))) (O 1 [e,d,f,c])
def g14b4a (a b c d e : PV) : T := L 36 b fun f=>L3 a f (X 36 b a (w13 fun g h i j k l m n o p q r s=>X 55 c d (w1 fun t=>E9 g t (A3 f i1 fun u=>Y 97 [u,b,c,d,(.rows [[a]]),e]) (A3 a i1 fun u=>Y 93 [u,b,c,d,e])))) (O0 [d,c,b,nS,nS,e])
def g14b4b (a b c d e f : PV) : T := L 36 b fun g=>L3 a g (X 36 b a (w13 fun h i j k l m n o p q r s t=>X 55 c d (w1 fun u=>E9 h u (A3 g i1 fun v=>Y 98 [v,b,c,d,(.rows [[a]]),e,f]) (A3 a i1 fun v=>Y 94 [v,b,c,d,e,f])))) (O0 [d,c,b,nS,e,f])
def g14b4c (a b c d e f : PV) : T := L 36 b fun g=>L3 a g (X 36 b a (w13 fun h i j k l m n o p q r s t=>X 55 c d (w1 fun u=>E9 h u (P 31 e (.rows [[a]]) fun v=>A3 g i1 fun w=>Y 99 [w,b,c,d,v,f]) (A3 a i1 fun v=>Y 95 [v,b,c,d,e,f])))) (O 1 [d,c,b,e,nS,f])
def g14b4d (a b c d e f g : PV) : T := L 36 b fun h=>L3 a h (X 36 b a (w13 fun i j k l m n o p q r s t u=>X 55 c d (w1 fun v=>E9 i v (P 31 e (.rows [[a]]) fun w=>A3 h i1 fun x=>Y 100 [x,b,c,d,w,f,g]) (A3 a i1 fun w=>Y 96 [w,b,c,d,e,f,g])))) (O0 [d,c,b,e,f,g])
def g14b4e (a b c d e f : PV) : T := L 36 b fun g=>L3 a g (X 36 b a (w13 fun h i j k l m n o p q r s t=>X 55 c d (w1 fun u=>E9 h u (P 31 e (.rows [[a]]) fun v=>A3 g i1 fun w=>Y 97 [w,b,c,d,v,f]) (A3 a i1 fun v=>Y 97 [v,b,c,d,e,f])))) (O 1 [d,c,b,e,nS,f])
def g14b4f (a b c d e f g : PV) : T := L 36 b fun h=>L3 a h (X 36 b a (w13 fun i j k l m n o p q r s t u=>X 55 c d (w1 fun v=>E9 i v (P 31 e (.rows [[a]]) fun w=>A3 h i1 fun x=>Y 98 [x,b,c,d,w,f,g]) (A3 a i1 fun w=>Y 98 [w,b,c,d,e,f,g])))) (O 2 [d,c,b,e,f,g])
def g14b4g (a b c d e f : PV) : T := L 36 b fun g=>L3 a g (X 36 b a (w13 fun h i j k l m n o p q r s t=>X 55 c d (w1 fun u=>E9 h u (P 31 e (.rows [[a]]) fun v=>A3 g i1 fun w=>Y 99 [w,b,c,d,v,f]) (A3 a i1 fun v=>Y 99 [v,b,c,d,e,f])))) (O 3 [d,c,b,e,nS,f])
def g14b4h (a b c d e f g : PV) : T := L 36 b fun h=>L3 a h (X 36 b a (w13 fun i j k l m n o p q r s t u=>X 55 c d (w1 fun v=>E9 i v (P 31 e (.rows [[a]]) fun w=>A3 h i1 fun x=>Y 100 [x,b,c,d,w,f,g]) (A3 a i1 fun w=>Y 100 [w,b,c,d,e,f,g])))) (O 1 [d,c,b,e,f,g])
def g16 (a : PV) : T := C0 129 [a] (w1 fun b=>C0 0 [b] (w2 fun c d=>O0 [c]))
def g21 (a b c d e f g h i j k : PV) : T := D 103 [i0,a,b,c,d,e,f,g,h,i,j,k] 0 1 (mz [a,b,c,d,e,f,g,h,i,j,k,nS] (C0 133 [j] (w1 fun l=>E3 a i3 (E3 a i7 (C0 134 [(.rows [])] (w1 fun m=>TW .eql 2 c i1 (C0 135 [m,l] (w1 fun n=>C0 136 [(.rows [[b]]),n] (w1 fun o=>C0 134 [h] (w1 fun p=>C0 135 [p,l] (w1 fun q=>C0 136 [o,q] (w1 fun r=>C0 105 [i0,r,a,b,c,d,e,f,g,h,i,j,k] (ms [a,b,c,d,e,f,g,h,i,j,k] (w1 fun s=>O0 [s])))))))) (C0 136 [(.rows [[b]]),m] (w1 fun n=>C0 134 [h] (w1 fun o=>C0 135 [o,l] (w1 fun p=>C0 136 [n,p] (w1 fun q=>C0 105 [i0,q,a,b,c,d,e,f,g,h,i,j,k] (ms [a,b,c,d,e,f,g,h,i,j,k] (w1 fun r=>O0 [r]))))))))) (E3 a i6 (C0 134 [h] (w1 fun m=>C0 135 [m,(.rows [[b]])] (w1 fun n=>C0 136 [(.rows [[b]]),n] (w1 fun o=>C0 134 [(.rows [])] (w1 fun p=>C0 136 [o,p] (w1 fun q=>C0 105 [i0,q,a,b,c,d,e,f,g,h,i,j,k] (ms [a,b,c,d,e,f,g,h,i,j,k] (w1 fun r=>O0 [r])))))))) (C0 134 [h] (w1 fun m=>C0 136 [(.rows [[b]]),m] (w1 fun n=>C0 134 [(.rows [])] (w1 fun o=>C0 136 [n,o] (w1 fun p=>C0 105 [i0,p,a,b,c,d,e,f,g,h,i,j,k] (ms [a,b,c,d,e,f,g,h,i,j,k] (w1 fun q=>O0 [q]))))))))) (E3 a i7 (C0 134 [(.rows [])] (w1 fun m=>TW .eql 2 c i1 (C0 135 [m,l] (w1 fun n=>C0 136 [(.rows []),n] (w1 fun o=>C0 134 [h] (w1 fun p=>C0 135 [p,l] (w1 fun q=>C0 136 [o,q] (w1 fun r=>C0 105 [i0,r,a,b,c,d,e,f,g,h,i,j,k] (ms [a,b,c,d,e,f,g,h,i,j,k] (w1 fun s=>O0 [s])))))))) (C0 136 [(.rows []),m] (w1 fun n=>C0 134 [h] (w1 fun o=>C0 135 [o,l] (w1 fun p=>C0 136 [n,p] (w1 fun q=>C0 105 [i0,q,a,b,c,d,e,f,g,h,i,j,k] (ms [a,b,c,d,e,f,g,h,i,j,k] (w1 fun r=>O0 [r]))))))))) (E3 a i6 (C0 134 [h] (w1 fun m=>C0 135 [m,(.rows [[b]])] (w1 fun n=>C0 136 [(.rows []),n] (w1 fun o=>C0 134 [(.rows [])] (w1 fun p=>C0 136 [o,p] (w1 fun q=>C0 105 [i0,q,a,b,c,d,e,f,g,h,i,j,k] (ms [a,b,c,d,e,f,g,h,i,j,k] (w1 fun r=>O0 [r])))))))) (C0 134 [h] (w1 fun m=>C0 136 [(.rows []),m] (w1 fun n=>C0 134 [(.rows [])] (w1 fun o=>C0 136 [n,o] (w1 fun p=>C0 105 [i0,p,a,b,c,d,e,f,g,h,i,j,k] (ms [a,b,c,d,e,f,g,h,i,j,k] (w1 fun q=>O0 [q])))))))))))) (ms [a,b,c,d,e,f,g,h,i,j,k] (w1 fun l=>C0 133 [j] (w1 fun m=>E3 a i3 (E3 a i7 (C0 134 [l] (w1 fun n=>TW .eql 2 c i1 (C0 135 [n,m] (w1 fun o=>C0 136 [(.rows [[b]]),o] (w1 fun p=>C0 134 [h] (w1 fun q=>C0 135 [q,m] (w1 fun r=>C0 136 [p,r] (w1 fun s=>C0 105 [i0,s,a,b,c,d,e,f,g,h,i,j,k] (ms [a,b,c,d,e,f,g,h,i,j,k] (w1 fun t=>O0 [t])))))))) (C0 136 [(.rows [[b]]),n] (w1 fun o=>C0 134 [h] (w1 fun p=>C0 135 [p,m] (w1 fun q=>C0 136 [o,q] (w1 fun r=>C0 105 [i0,r,a,b,c,d,e,f,g,h,i,j,k] (ms [a,b,c,d,e,f,g,h,i,j,k] (w1 fun s=>O0 [s]))))))))) (E3 a i6 (C0 134 [h] (w1 fun n=>C0 135 [n,(.rows [[b]])] (w1 fun o=>C0 136 [(.rows [[b]]),o] (w1 fun p=>C0 134 [l] (w1 fun q=>C0 136 [p,q] (w1 fun r=>C0 105 [i0,r,a,b,c,d,e,f,g,h,i,j,k] (ms [a,b,c,d,e,f,g,h,i,j,k] (w1 fun s=>O0 [s])))))))) (C0 134 [h] (w1 fun n=>C0 136 [(.rows [[b]]),n] (w1 fun o=>C0 134 [l] (w1 fun p=>C0 136 [o,p] (w1 fun q=>C0 105 [i0,q,a,b,c,d,e,f,g,h,i,j,k] (ms [a,b,c,d,e,f,g,h,i,j,k] (w1 fun r=>O0 [r]))))))))) (E3 a i7 (C0 134 [l] (w1 fun n=>TW .eql 2 c i1 (C0 135 [n,m] (w1 fun o=>C0 136 [(.rows []),o] (w1 fun p=>C0 134 [h] (w1 fun q=>C0 135 [q,m] (w1 fun r=>C0 136 [p,r] (w1 fun s=>C0 105 [i0,s,a,b,c,d,e,f,g,h,i,j,k] (ms [a,b,c,d,e,f,g,h,i,j,k] (w1 fun t=>O0 [t])))))))) (C0 136 [(.rows []),n] (w1 fun o=>C0 134 [h] (w1 fun p=>C0 135 [p,m] (w1 fun q=>C0 136 [o,q] (w1 fun r=>C0 105 [i0,r,a,b,c,d,e,f,g,h,i,j,k] (ms [a,b,c,d,e,f,g,h,i,j,k] (w1 fun s=>O0 [s]))))))))) (E3 a i6 (C0 134 [h] (w1 fun n=>C0 135 [n,(.rows [[b]])] (w1 fun o=>C0 136 [(.rows []),o] (w1 fun p=>C0 134 [l] (w1 fun q=>C0 136 [p,q] (w1 fun r=>C0 105 [i0,r,a,b,c,d,e,f,g,h,i,j,k] (ms [a,b,c,d,e,f,g,h,i,j,k] (w1 fun s=>O0 [s])))))))) (C0 134 [h] (w1 fun n=>C0 136 [(.rows []),n] (w1 fun o=>C0 134 [l] (w1 fun p=>C0 136 [o,p] (w1 fun q=>C0 105 [i0,q,a,b,c,d,e,f,g,h,i,j,k] (ms [a,b,c,d,e,f,g,h,i,j,k] (w1 fun r=>O0 [r]))))))))))))
def g21b0a (a b c d e f g h i j k l : PV) : T := L 36 k fun m=>L3 a m (X 36 k a (w13 fun n o p q r s t u v w x y z=>A3 a i1 fun a0=>Y 104 [a0,(.rows [[o,p,q,r,s,t,u,v,w,x,y]]),b,c,d,e,f,g,h,i,j,k,l])) (O0 [b,c,d,e,f,g,h,i,j,k,l,nS])
def g21b0b (a b c d e f g h i j k l m : PV) : T := L 36 l fun n=>L3 a n (X 36 l a (w13 fun o p q r s t u v w x y z a0=>P 40 b (.rows [[p,q,r,s,t,u,v,w,x,y,z]]) fun b0=>A3 a i1 fun c0=>Y 104 [c0,b0,c,d,e,f,g,h,i,j,k,l,m])) (O 1 [c,d,e,f,g,h,i,j,k,l,m,b])
def g21b3a (a b c d e f g h i j k l m : PV) : T := L 41 k fun n=>L3 a n (X 41 k a (w16 fun o p q r s t u v w x y z a0 b0 c0 d0=>C0 102 [t,u,v,w,x,y,z,a0,b0,c0,d0] (w1 fun f0=>C0 137 [o,p,q,r,s] (w1 fun g0=>C0 135 [f0,g0] (w1 fun h0=>C0 136 [b,h0] (w1 fun j0=>A3 a i1 fun k0=>Y 105 [k0,j0,c,d,e,f,g,h,i,j,k,l,m])))))) (O0 [c,d,e,f,g,h,i,j,k,l,m,b])
def g30 (a : PV) : T := D 107 [i0,a] 0 1 (mz [nS] (O0 [nS])) (w1 fun b=>O 1 [b])
def g30b0a (a b : PV) : T := L 36 b fun c=>L3 a c (X 36 b a (w13 fun d e f g h i j k l m n o p=>A3 a i1 fun q=>Y 108 [q,b,(.rows [[d]])])) (O0 [nS])
def g30b0b (a b c : PV) : T := L 36 b fun d=>L3 a d (X 36 b a (w13 fun e f g h i j k l m n o p q=>P 55 c (.rows [[e]]) fun r=>A3 a i1 fun s=>Y 108 [s,b,r])) (O 1 [c])
def g32 (a b : PV) : T := D 110 [i0,a,b] 0 1 (mz [nS] (O0 [nS])) (w1 fun c=>O 1 [c])
def g32b0a (a b c : PV) : T := L 55 b fun d=>L3 a d (X 55 b a (w1 fun e=>Q0 122 [c,e] (A3 a i1 fun f=>Y 110 [f,b,c]) (A3 a i1 fun f=>Y 111 [f,b,c,(.rows [[e]])]))) (O0 [nS])
def g32b0b (a b c d : PV) : T := L 55 b fun e=>L3 a e (X 55 b a (w1 fun f=>Q0 122 [c,f] (A3 a i1 fun g=>Y 111 [g,b,c,d]) (P 55 d (.rows [[f]]) fun g=>A3 a i1 fun h=>Y 111 [h,b,c,g]))) (O 1 [d])
def g33 (a b : PV) : T := J (P 55 nS a fun c=>D 113 [i0,b,c] 0 1 (mz [c] (O0 [c])) (w1 fun d=>O0 [d])) (P0 55 nS a (D 114 [i0,b] 0 1 (mz [nS] (O 1 [nS])) (w1 fun c=>O0 [c])))
def g33b0a (a b c : PV) : T := L 55 b fun d=>L3 a d (X 55 b a (w1 fun e=>Q0 122 [c,e] (A3 a i1 fun f=>Y 113 [f,b,c]) (P 55 c (.rows [[e]]) fun f=>A3 a i1 fun g=>Y 115 [g,b,f]))) (O0 [c])
def g33b0b (a b : PV) : T := L 55 b fun c=>L3 a c (X 55 b a (w1 fun d=>Q0 122 [(.rows []),d] (A3 a i1 fun e=>Y 114 [e,b]) (A3 a i1 fun e=>Y 116 [e,b,(.rows [[d]])]))) (O0 [nS])
def g33b0c (a b c : PV) : T := L 55 b fun d=>L3 a d (X 55 b a (w1 fun e=>Q0 122 [c,e] (A3 a i1 fun f=>Y 115 [f,b,c]) (P 55 c (.rows [[e]]) fun f=>A3 a i1 fun g=>Y 115 [g,b,f]))) (O 1 [c])
def g33b0d (a b c : PV) : T := L 55 b fun d=>L3 a d (X 55 b a (w1 fun e=>Q0 122 [c,e] (A3 a i1 fun f=>Y 116 [f,b,c]) (P 55 c (.rows [[e]]) fun f=>A3 a i1 fun g=>Y 116 [g,b,f]))) (O 1 [c])
def g34 (a b c d e : PV) : T := E3 a i2 (D 118 [i0,(.rows [[b]]),a,b,c,d,e] 0 1 (mz [a,b,c,d,e,(.rows [[b]])] (O0 [(.rows [[b]])])) (ms [a,b,c,d,e] (w1 fun f=>O0 [f]))) (D 119 [i0,a,b,c,d,e] 0 1 (mz [a,b,c,d,e,nS] (O 1 [nS])) (ms [a,b,c,d,e] (w1 fun f=>O0 [f])))
def g34b0a (a b c d e f g : PV) : T := L 66 f fun h=>L3 a h (X 66 f a (w5 fun i j k l m=>C0 137 [i,j,k,l,m] (w1 fun n=>J (P 55 b n fun o=>A3 a i1 fun p=>Y 120 [p,o,c,d,e,f,g]) (P0 55 b n (A3 a i1 fun o=>Y 118 [o,b,c,d,e,f,g]))))) (O0 [c,d,e,f,g,b])
def g34b0b (a b c d e f : PV) : T := L 66 e fun g=>L3 a g (X 66 e a (w5 fun h i j k l=>C0 137 [h,i,j,k,l] (w1 fun m=>J (P 55 nS m fun n=>A3 a i1 fun o=>Y 121 [o,n,b,c,d,e,f]) (P0 55 nS m (A3 a i1 fun n=>Y 119 [n,b,c,d,e,f]))))) (O0 [b,c,d,e,f,nS])
def g34b0c (a b c d e f g : PV) : T := L 66 f fun h=>L3 a h (X 66 f a (w5 fun i j k l m=>C0 137 [i,j,k,l,m] (w1 fun n=>J (P 55 b n fun o=>A3 a i1 fun p=>Y 120 [p,o,c,d,e,f,g]) (P0 55 b n (A3 a i1 fun o=>Y 120 [o,b,c,d,e,f,g]))))) (O 1 [c,d,e,f,g,b])
def g34b0d (a b c d e f g : PV) : T := L 66 f fun h=>L3 a h (X 66 f a (w5 fun i j k l m=>C0 137 [i,j,k,l,m] (w1 fun n=>J (P 55 b n fun o=>A3 a i1 fun p=>Y 121 [p,o,c,d,e,f,g]) (P0 55 b n (A3 a i1 fun o=>Y 121 [o,b,c,d,e,f,g]))))) (O 1 [c,d,e,f,g,b])
def g39 (a b : PV) : T := J (C 123 [i0,a,b] 1 (z (O0 [bf]))) (Q0 123 [i0,a,b] (O0 [bt]) (O0 [bf]))
def g39b0a (a b c : PV) : T := L 55 b fun d=>L3 a d (X 55 b a (w1 fun e=>E9 e c (O0 [bt]) (A3 a i1 fun f=>Y 123 [f,b,c]))) (O 1 [])
def g31 (a : PV) : T := D 125 [i0,a] 0 1 (mz [nS] (O0 [nS])) (w1 fun b=>O 1 [b])
def g31b0a (a b : PV) : T := L 40 b fun c=>L3 a c (X 40 b a (w11 fun d e f g h i j k l m n=>C0 102 [d,e,f,g,h,i,j,k,l,m,n] (w1 fun o=>D 112 [(.rows []),o] 1 0 (mz [nS] (A3 a i1 fun p=>Y 125 [p,b])) (w1 fun p=>A3 a i1 fun q=>Y 126 [q,b,p])))) (O0 [nS])
def g31b0b (a b c : PV) : T := L 40 b fun d=>L3 a d (X 40 b a (w11 fun e f g h i j k l m n o=>C0 102 [e,f,g,h,i,j,k,l,m,n,o] (w1 fun p=>D 112 [c,p] 1 0 (mz [nS] (A3 a i1 fun q=>Y 125 [q,b])) (w1 fun q=>A3 a i1 fun r=>Y 126 [r,b,q])))) (O 1 [c])
end
def k0 (g : Rf) : Et := g  0
def k1 (g : PV → Rf) : Et := g (.sym 0) 1
def k2 (g : PV → PV → Rf) : Et := g (.sym 0) (.sym 1) 2
def k3 (g : PV → PV → PV → Rf) : Et := g (.sym 0) (.sym 1) (.sym 2) 3
def k4 (g : PV → PV → PV → PV → Rf) : Et := g (.sym 0) (.sym 1) (.sym 2) (.sym 3) 4
def k5 (g : PV → PV → PV → PV → PV → Rf) : Et := g (.sym 0) (.sym 1) (.sym 2) (.sym 3) (.sym 4) 5
def k6 (g : PV → PV → PV → PV → PV → PV → Rf) : Et := g (.sym 0) (.sym 1) (.sym 2) (.sym 3) (.sym 4) (.sym 5) 6
def k7 (g : PV → PV → PV → PV → PV → PV → PV → Rf) : Et := g (.sym 0) (.sym 1) (.sym 2) (.sym 3) (.sym 4) (.sym 5) (.sym 6) 7
def k8 (g : PV → PV → PV → PV → PV → PV → PV → PV → Rf) : Et := g (.sym 0) (.sym 1) (.sym 2) (.sym 3) (.sym 4) (.sym 5) (.sym 6) (.sym 7) 8
def k9 (g : PV → PV → PV → PV → PV → PV → PV → PV → PV → Rf) : Et := g (.sym 0) (.sym 1) (.sym 2) (.sym 3) (.sym 4) (.sym 5) (.sym 6) (.sym 7) (.sym 8) 9
def k10 (g : PV → PV → PV → PV → PV → PV → PV → PV → PV → PV → Rf) : Et := g (.sym 0) (.sym 1) (.sym 2) (.sym 3) (.sym 4) (.sym 5) (.sym 6) (.sym 7) (.sym 8) (.sym 9) 10
def k11 (g : PV → PV → PV → PV → PV → PV → PV → PV → PV → PV → PV → Rf) : Et := g (.sym 0) (.sym 1) (.sym 2) (.sym 3) (.sym 4) (.sym 5) (.sym 6) (.sym 7) (.sym 8) (.sym 9) (.sym 10) 11
def k12 (g : PV → PV → PV → PV → PV → PV → PV → PV → PV → PV → PV → PV → Rf) : Et := g (.sym 0) (.sym 1) (.sym 2) (.sym 3) (.sym 4) (.sym 5) (.sym 6) (.sym 7) (.sym 8) (.sym 9) (.sym 10) (.sym 11) 12
def k13 (g : PV → PV → PV → PV → PV → PV → PV → PV → PV → PV → PV → PV → PV → Rf) : Et := g (.sym 0) (.sym 1) (.sym 2) (.sym 3) (.sym 4) (.sym 5) (.sym 6) (.sym 7) (.sym 8) (.sym 9) (.sym 10) (.sym 11) (.sym 12) 13
def k14 (g : PV → PV → PV → PV → PV → PV → PV → PV → PV → PV → PV → PV → PV → PV → Rf) : Et := g (.sym 0) (.sym 1) (.sym 2) (.sym 3) (.sym 4) (.sym 5) (.sym 6) (.sym 7) (.sym 8) (.sym 9) (.sym 10) (.sym 11) (.sym 12) (.sym 13) 14
def pR : Nat → Nat → List PV
  | _, 0 => []
  | a, n + 1 => .sym a :: pR (a + 1) n
def wR : Nat → Nat → List AV
  | _, 0 => []
  | a, n + 1 => .pv (.sym a) :: wR (a + 1) n
def nA : AV := .pv nS
def eA : AV := .pv e0
def zA : AV := .pv i0
def tA : AV := .pv bt
def fA : AV := .pv bf
def rA (n : Nat) : AV := .ptr n 0
def nR : Nat → List AV
  | 0 => []
  | n + 1 => nA :: nR n
def tk (t s n : Nat) : AObj := .tok t s (symBase + n)
def eF (f : Nat) (a : List AV) (h : List AObj) (n m : Nat) : Ent := { f := f, args := a, h := h, n := n, fam := m }
def eL (a b f : Nat) (e : Env) (h : List AObj) (n m : Nat) : Ent := { lp := some (a, b), f := f, e := e, h := h, n := n, fam := m }
def rn (r : List Nat) (e : Ent) : Ent := { e with rin := r }
def wkE (e : Ent) (m b : Nat) : Ent := { e with fam := m, base := some b }
def wkM (e : Ent) (m b : Nat) (wm : List Nat) : Ent := { e with fam := m, base := some b, wm := wm }
def yU (v : AV) (m : Nat) : Shape := { v := v, m := m }
def yV (v : AV) (h : List AObj) (m : Nat) : Shape := { v := v, h := h, m := m }
def yW (v : AV) (h : List AObj) (m : Nat) (r : List Nat) : Shape := { v := v, h := h, m := m, rw := r }
def yE (x : AExit) (e : Env) (h : List AObj) (m : Nat) : Shape := { ex := x, e := e, h := h, m := m }
def yR (x : AExit) (e : Env) (h : List AObj) (m : Nat) (r : List Nat) : Shape := { ex := x, e := e, h := h, m := m, rw := r }
def b43_11 (a : Nat) : AObj := .box 43 (wR a 11)
def b68_5 (a : Nat) : AObj := .box 68 (wR a 5)
def o0 : AV := .pv (.sym 0)
def o1 : AV := .pv (.sym 1)
def o2 : AV := .pv (.sym 2)
def o3 : AV := .pv (.sym 3)
def o4 : AV := .pv (.sym 4)
def o5 : AV := .pv (.sym 5)
def o6 : AV := .pv (.sym 6)
def o7 : AV := .pv (.sym 7)
def o8 : AV := .pv (.sym 8)
def o9 : AV := .pv (.sym 9)
def o10 : AV := .pv (.sym 10)
def o11 : AV := .pv (.sym 11)
def o12 : AV := .pv (.sym 12)
def y0 : List AObj := [.box 51 [o0,(.arr 1),(.arr 2),(.arr 3),(.arr 4),(.arr 5)], .arr 3 1 (.sym 1), .arr 3 1 (.sym 2), .arr 3 1 (.sym 3), .arr 3 1 (.sym 4), .arr 31 1 (.sym 5), .arr 4 1 (.sym 6)]
def y1 : List AObj := [.box 51 [o0,(.arr 1),(.arr 2),(.arr 3),o1,(.arr 4)], .arr 3 1 (.sym 2), .arr 3 1 (.sym 3), .arr 3 1 (.sym 4), .arr 31 1 (.sym 5), .arr 4 1 (.sym 6)]
def y2 : List AObj := [.box 51 [o0,(.arr 1),(.arr 2),(.arr 3),(.arr 4),(.arr 5)], .arr 3 1 (.sym 1), .arr 3 1 (.sym 2), .arr 3 1 (.sym 3), .arr 3 1 (.sym 4), .arr 31 1 (.sym 5), .arr 4 1 (.sym 6), .arr 31 1 (.sym 7)]
def y3 : List AObj := [.box 49 [(rA 1)], .box 51 [o4,(.arr 2),(.arr 3),(.arr 4),(.arr 5),(.arr 6)], .arr 3 1 (.sym 5), .arr 3 1 (.sym 6), .arr 3 1 (.sym 7), .arr 3 1 (.sym 8), .arr 31 1 (.sym 9)]
def y4 : List AV := [(.fn 25 [(.ptr 7 0),(.ptr 0 0),(.ptr 6 0)])]
def y5 : List AV := [(.fn 25 [(.ptr 8 0),(.ptr 0 0),(.ptr 7 0)])]
def y6 : Env := [(45,o0),(44,o1),(43,o2),(2,(rA 0)),(3,(rA 6)),(0,o3)]
def y7 : Env := [(45,o0),(44,o1),(43,o2),(2,(rA 0)),(3,(rA 7)),(0,o3)]
def y8 : List AObj := [.box 51 [o0,(.arr 1),(.arr 2),(.arr 3),o1,(.arr 4)], .arr 3 1 (.sym 2), .arr 3 1 (.sym 3), .arr 3 1 (.sym 4), .arr 31 1 (.sym 5), .arr 4 1 (.sym 6), .arr 31 1 (.sym 7)]
def y9 : List AObj := [.box 51 [o0,(.arr 1),(.arr 2),(.arr 3),(.arr 4),(.arr 5)], .arr 3 1 (.sym 1), .arr 3 1 (.sym 2), .arr 3 1 (.sym 3), .arr 3 1 (.sym 4), .arr 31 1 (.sym 5)]
def y10 : List AV := [(.fn 25 [(.ptr 6 0),(.ptr 0 0),(.ptr 5 0)])]
def y11 : Env := [(153,o0),(152,o1),(151,o2),(2,(rA 0)),(8,o3)]
def y12 : List AObj := [.box 49 [(rA 1)], .box 51 [o4,(.arr 2),(.arr 3),(.arr 4),(.arr 9),(.arr 10)], .arr 3 1 (.sym 5), .arr 3 1 (.sym 6), .arr 3 1 (.sym 7), .dead, .dead, .box 59 y5, .box 3 [o8], .arr 3 1 (.sym 9), .arr 31 1 (.sym 10)]
def y13 : List AV := [(.fn 25 [(.ptr 0 0),(.ptr 1 0),(.ptr 7 0)])]
def y14 : List AObj := [.box 49 [(rA 1)], .box 51 [o4,(.arr 2),(.arr 3),(.arr 4),(.arr 8),(.arr 9)], .arr 3 1 (.sym 5), .arr 3 1 (.sym 6), .arr 3 1 (.sym 7), .dead, .box 59 y4, .box 3 [o8], .arr 3 1 (.sym 9), .arr 31 1 (.sym 10)]
def y15 : List AObj := [.box 49 [(rA 1)], .box 51 [o4,(.arr 2),(.arr 3),(.arr 4),(.arr 5),(.arr 9)], .arr 3 1 (.sym 5), .arr 3 1 (.sym 6), .arr 3 1 (.sym 7), .arr 3 1 (.sym 8), .dead, .box 59 y5, .box 3 [o9], .arr 31 1 (.sym 10)]
def y16 : List AObj := [.box 49 [(rA 1)], .box 51 [o4,(.arr 2),(.arr 3),(.arr 4),(.arr 9),(.arr 6)], .arr 3 1 (.sym 5), .arr 3 1 (.sym 6), .arr 3 1 (.sym 7), .dead, .arr 31 1 (.sym 8), .box 59 y5, .box 3 [o9], .arr 3 1 (.sym 10)]
def y17 : List AObj := [.box 3 [o0], .box 49 [(rA 2)], .box 51 [o1,(.arr 3),(.arr 4),(.arr 5),(.arr 8),(.arr 9)], .arr 3 1 (.sym 2), .arr 3 1 (.sym 3), .arr 3 1 (.sym 4), .dead, .box 59 y13, .arr 3 1 (.sym 5), .arr 31 1 (.sym 6)]
def y18 : List AObj := [.box 51 [o0,(.arr 1),(.arr 2),(.arr 3),o1,o2], .arr 3 1 (.sym 3), .arr 3 1 (.sym 4), .arr 3 1 (.sym 5)]
def y19 : List AObj := [.box 49 [(rA 1)], .box 51 [o4,(.arr 2),(.arr 3),(.arr 4),(.arr 5),(.arr 8)], .arr 3 1 (.sym 5), .arr 3 1 (.sym 6), .arr 3 1 (.sym 7), .arr 3 1 (.sym 8), .box 59 y4, .box 3 [o9], .arr 31 1 (.sym 10)]
def y20 : List AObj := [.box 49 [(rA 1)], .box 51 [o4,(.arr 2),(.arr 3),(.arr 4),(.arr 5),(.arr 6)], .arr 3 1 (.sym 5), .arr 3 1 (.sym 6), .arr 3 1 (.sym 7), .arr 3 1 (.sym 8), .arr 31 1 (.sym 9), .box 59 y5, .box 3 [o10]]
def y21 : List AObj := [.box 49 [(rA 1)], .box 51 [o4,(.arr 2),(.arr 3),(.arr 4),(.arr 8),nA], .arr 3 1 (.sym 5), .arr 3 1 (.sym 6), .arr 3 1 (.sym 7), .dead, .box 59 y4, .box 3 [o8], .arr 3 1 (.sym 9)]
def y22 : List AObj := [.box 49 [(rA 1)], .box 51 [o4,(.arr 2),(.arr 3),(.arr 4),(.arr 5),nA], .arr 3 1 (.sym 5), .arr 3 1 (.sym 6), .arr 3 1 (.sym 7), .arr 3 1 (.sym 8), .box 59 y4, .box 3 [o9]]
def y23 : List AObj := [.box 49 [(rA 1)], .box 51 [o4,(.arr 2),(.arr 3),(.arr 4),(.arr 5),nA], .arr 3 1 (.sym 5), .arr 3 1 (.sym 6), .arr 3 1 (.sym 7), .arr 3 1 (.sym 8)]
def y24 : List AObj := [.box 51 [o0,(.arr 1),(.arr 2),(.arr 3),o1,(.arr 4)], .arr 3 1 (.sym 2), .arr 3 1 (.sym 3), .arr 3 1 (.sym 4), .arr 31 1 (.sym 5)]
def y25 : List AObj := [.box 51 [o0,(.arr 1),(.arr 2),(.arr 3),(.arr 4),o1], .arr 3 1 (.sym 2), .arr 3 1 (.sym 3), .arr 3 1 (.sym 4), .arr 3 1 (.sym 5)]
def y26 : Env := [(11,o0),(10,o1),(1,(rA 0)),(3,(rA 5))]
def y27 : Env := [(2,(rA 0)),(0,o7)]
def y28 : List AObj := [.box 51 [o0,(.arr 1),(.arr 2),(.arr 3),nA,nA], .arr 3 1 (.sym 1), .arr 3 1 (.sym 2), .arr 3 1 (.sym 3)]
def y29 : List AV := [(.fn 25 [(.ptr 0 0),(.ptr 1 0),(.ptr 6 0)])]
def y30 : List AV := [(.fn 25 [(.ptr 0 0),(.ptr 1 0),(.ptr 8 0)])]
def y31 : List Shape := [yU o0 1, yW (.tsym 0 0) [tk 9 1 0] 1 [0]]
def en60 : Ent := eF 10 [o0] [] 1 35
def en86 : Ent := eF 14 [o0] [] 1 56
def en106 : Ent := eF 30 [o0] [] 1 67
def en109 : Ent := eF 32 [o0,o1] [] 2 69
def en112 : Ent := eF 33 [o0,o1] [] 2 71
def en117 : Ent := eF 34 [(.agg (wR 0 5))] [] 5 74
def en124 : Ent := eF 31 [o0] [] 1 79
def en131 : Ent := wkE en86 85 86
def en132 : Ent := wkE en60 86 60
def en133 : Ent := wkE en106 87 106
def en134 : Ent := wkE en124 88 124
def en135 : Ent := wkE en109 89 109
def en136 : Ent := wkE en112 90 112
def en137 : Ent := wkE en117 91 117
def enL : List Ent := [
  eF 9 [o0] [] 1 0,
  eL 0 0 9 [(15,o0),(14,o1),(13,o2),(4,o3),(0,o4)] [] 5 1,
  eL 2 0 9 [(21,o0),(20,o1),(19,o2),(4,o3),(15,o4),(14,o5),(13,o6),(0,o7)] [] 8 2,
  eL 4 4 9 [(48,o0),(47,o1),(9,(rA 0))] [.box 51 [o2,(.arr 1),(.arr 2),(.arr 3),nA,nA], .arr 3 1 (.sym 3), .arr 3 1 (.sym 4), .arr 3 1 (.sym 5)] 6 3,
  eF 17 [(rA 0)] y28 4 4,
  eL 0 7 17 y26 [.box 49 [(rA 1)], .box 51 [o2,(.arr 2),(.arr 3),(.arr 4),nA,nA], .arr 3 1 (.sym 3), .arr 3 1 (.sym 4), .arr 3 1 (.sym 5), .box 59 y10, .box 3 [o6]] 7 5,
  eL 0 7 17 y26 [.box 49 [(rA 1)], .box 51 [o2,(.arr 2),(.arr 3),(.arr 4),nA,(.arr 7)], .arr 3 1 (.sym 3), .arr 3 1 (.sym 4), .arr 3 1 (.sym 5), .box 59 y10, .box 3 [o6], .arr 31 1 (.sym 7)] 8 5,
  eL 0 7 17 y26 [.box 49 [(rA 1)], .box 51 [o2,(.arr 2),(.arr 3),(.arr 4),(.arr 7),nA], .arr 3 1 (.sym 3), .arr 3 1 (.sym 4), .arr 3 1 (.sym 5), .box 59 y10, .box 3 [o6], .arr 3 1 (.sym 7)] 8 5,
  eL 0 7 17 y26 [.box 49 [(rA 1)], .box 51 [o2,(.arr 2),(.arr 3),(.arr 4),(.arr 7),(.arr 8)], .arr 3 1 (.sym 3), .arr 3 1 (.sym 4), .arr 3 1 (.sym 5), .box 59 y10, .box 3 [o6], .arr 3 1 (.sym 7), .arr 31 1 (.sym 8)] 9 5,
  eF 18 [(rA 0)] y28 4 6,
  eL 0 5 18 [(4,nA),(0,(rA 0)),(3,(.sl 4 0 0 1))] [.box 51 [o0,(.arr 1),(.arr 2),(.arr 3),nA,nA], .arr 3 1 (.sym 1), .arr 3 1 (.sym 2), .arr 3 1 (.sym 3), .box 4 []] 4 7,
  eF 18 [(rA 0)] [.box 51 [o0,(.arr 1),(.arr 2),(.arr 3),nA,(.arr 4)], .arr 3 1 (.sym 1), .arr 3 1 (.sym 2), .arr 3 1 (.sym 3), .arr 31 1 (.sym 4)] 5 8,
  eL 0 6 18 [(4,nA),(0,(rA 0)),(3,(.arr 5))] [.box 51 [o0,(.arr 1),(.arr 2),(.arr 3),nA,(.arr 4)], .arr 3 1 (.sym 1), .arr 3 1 (.sym 2), .arr 3 1 (.sym 3), .arr 31 1 (.sym 4), .arr 4 1 (.sym 5)] 6 9,
  eL 0 6 18 [(4,(.arr 6)),(0,(rA 0)),(3,(.arr 5))] [.box 51 [o0,(.arr 1),(.arr 2),(.arr 3),nA,(.arr 4)], .arr 3 1 (.sym 1), .arr 3 1 (.sym 2), .arr 3 1 (.sym 3), .arr 31 1 (.sym 4), .arr 4 1 (.sym 5), .arr 31 1 (.sym 6)] 7 9,
  eL 2 6 18 [(26,o0),(25,o1),(0,(rA 0)),(3,(.arr 5)),(4,nA)] [.box 51 [o2,(.arr 1),(.arr 2),(.arr 3),nA,(.arr 4)], .arr 3 1 (.sym 3), .arr 3 1 (.sym 4), .arr 3 1 (.sym 5), .arr 31 1 (.sym 6), .arr 4 1 (.sym 7)] 8 10,
  eL 2 7 18 [(26,o0),(25,o1),(0,(rA 0)),(3,(.arr 5)),(4,(.arr 6))] [.box 51 [o2,(.arr 1),(.arr 2),(.arr 3),nA,(.arr 4)], .arr 3 1 (.sym 3), .arr 3 1 (.sym 4), .arr 3 1 (.sym 5), .arr 31 1 (.sym 6), .arr 4 1 (.sym 7), .arr 31 1 (.sym 8)] 9 11,
  eF 18 [(rA 0)] [.box 51 [o0,(.arr 1),(.arr 2),(.arr 3),(.arr 4),nA], .arr 3 1 (.sym 1), .arr 3 1 (.sym 2), .arr 3 1 (.sym 3), .arr 3 1 (.sym 4)] 5 12,
  eL 0 6 18 [(4,nA),(0,(rA 0)),(3,(.sl 5 0 0 1))] [.box 51 [o0,(.arr 1),(.arr 2),(.arr 3),(.arr 4),nA], .arr 3 1 (.sym 1), .arr 3 1 (.sym 2), .arr 3 1 (.sym 3), .arr 3 1 (.sym 4), .box 4 []] 5 9,
  eF 18 [(rA 0)] y9 6 13,
  eL 0 7 18 [(4,nA),(0,(rA 0)),(3,(.arr 6))] y0 7 14,
  eL 0 7 18 [(4,(.arr 7)),(0,(rA 0)),(3,(.arr 6))] y2 8 14,
  eL 2 7 18 [(26,o0),(25,o1),(0,(rA 0)),(3,(.arr 6)),(4,nA)] [.box 51 [o2,(.arr 1),(.arr 2),(.arr 3),(.arr 4),(.arr 5)], .arr 3 1 (.sym 3), .arr 3 1 (.sym 4), .arr 3 1 (.sym 5), .arr 3 1 (.sym 6), .arr 31 1 (.sym 7), .arr 4 1 (.sym 8)] 9 11,
  eL 2 8 18 [(26,o0),(25,o1),(0,(rA 0)),(3,(.arr 6)),(4,(.arr 7))] [.box 51 [o2,(.arr 1),(.arr 2),(.arr 3),(.arr 4),(.arr 5)], .arr 3 1 (.sym 3), .arr 3 1 (.sym 4), .arr 3 1 (.sym 5), .arr 3 1 (.sym 6), .arr 31 1 (.sym 7), .arr 4 1 (.sym 8), .arr 31 1 (.sym 9)] 10 15,
  eF 25 [o0,(rA 0),(rA 1),(rA 6)] [.box 3 [o1], .box 49 [(rA 2)], .box 51 [o2,(.arr 3),(.arr 4),(.arr 5),nA,nA], .arr 3 1 (.sym 3), .arr 3 1 (.sym 4), .arr 3 1 (.sym 5), .box 59 y29] 6 16,
  eL 0 8 25 y6 y22 10 17,
  eL 0 8 25 y6 y19 11 17,
  eL 0 8 25 y6 y21 10 17,
  eL 0 8 25 y6 y14 11 17,
  eL 3 6 25 y11 y23 9 18,
  eL 3 7 25 y11 y3 10 19,
  eF 25 [o0,(rA 0),(rA 1),(rA 7)] [.box 3 [o1], .box 49 [(rA 2)], .box 51 [o2,(.arr 3),(.arr 4),(.arr 5),nA,(.arr 6)], .arr 3 1 (.sym 3), .arr 3 1 (.sym 4), .arr 3 1 (.sym 5), .arr 31 1 (.sym 6), .box 59 y13] 7 20,
  eL 0 9 25 y7 y20 11 21,
  eL 0 9 25 y7 y15 11 21,
  eL 0 9 25 y7 y16 11 21,
  eL 0 9 25 y7 y12 11 21,
  eL 3 7 25 y11 y3 10 19,
  eF 25 [o0,(rA 0),(rA 1),(rA 7)] [.box 3 [o1], .box 49 [(rA 2)], .box 51 [o2,(.arr 3),(.arr 4),(.arr 5),(.arr 6),nA], .arr 3 1 (.sym 3), .arr 3 1 (.sym 4), .arr 3 1 (.sym 5), .arr 3 1 (.sym 6), .box 59 y13] 7 22,
  eL 0 8 25 y6 y22 10 17,
  eL 0 8 25 y6 y19 11 17,
  eL 0 8 25 y6 y21 10 17,
  eL 0 8 25 y6 y14 11 17,
  eL 3 6 25 y11 y23 9 18,
  eL 3 7 25 y11 y3 10 19,
  eF 25 [o0,(rA 0),(rA 1),(rA 8)] [.box 3 [o1], .box 49 [(rA 2)], .box 51 [o2,(.arr 3),(.arr 4),(.arr 5),(.arr 6),(.arr 7)], .arr 3 1 (.sym 3), .arr 3 1 (.sym 4), .arr 3 1 (.sym 5), .arr 3 1 (.sym 6), .arr 31 1 (.sym 7), .box 59 y30] 8 23,
  eL 0 9 25 y7 y20 11 21,
  eL 0 9 25 y7 y15 11 21,
  eL 0 9 25 y7 y16 11 21,
  eL 0 9 25 y7 y12 11 21,
  eL 3 7 25 y11 y3 10 19,
  eF 29 [(rA 0),o0,(.arr 5)] [.box 51 [o1,(.arr 1),(.arr 2),(.arr 3),nA,(.arr 4)], .arr 3 1 (.sym 2), .arr 3 1 (.sym 3), .arr 3 1 (.sym 4), .arr 31 1 (.sym 5), .arr 4 1 (.sym 6)] 7 24,
  eL 0 6 29 [(13,o0),(12,o1),(11,o2),(0,(rA 0)),(2,(.arr 5))] [.box 51 [o3,(.arr 1),(.arr 2),(.arr 3),nA,(.arr 4)], .arr 3 1 (.sym 4), .arr 3 1 (.sym 5), .arr 3 1 (.sym 6), .arr 31 1 (.sym 7), .arr 4 1 (.sym 8)] 9 25,
  eL 2 6 29 [(25,o0),(24,o1),(23,o2),(0,(rA 0)),(8,o3),(2,(.arr 5)),(13,o4),(12,o5),(11,o6)] [.box 51 [o7,(.arr 1),(.arr 2),(.arr 3),nA,(.arr 4)], .arr 3 1 (.sym 8), .arr 3 1 (.sym 9), .arr 3 1 (.sym 10), .arr 31 1 (.sym 11), .arr 4 1 (.sym 12)] 13 26,
  eF 29 [(rA 0),o0,(.arr 6)] [.box 51 [o1,(.arr 1),(.arr 2),(.arr 3),(.arr 4),(.arr 5)], .arr 3 1 (.sym 2), .arr 3 1 (.sym 3), .arr 3 1 (.sym 4), .arr 3 1 (.sym 5), .arr 31 1 (.sym 6), .arr 4 1 (.sym 7)] 8 27,
  eL 0 7 29 [(13,o0),(12,o1),(11,o2),(0,(rA 0)),(2,(.arr 6))] [.box 51 [o3,(.arr 1),(.arr 2),(.arr 3),(.arr 4),(.arr 5)], .arr 3 1 (.sym 4), .arr 3 1 (.sym 5), .arr 3 1 (.sym 6), .arr 3 1 (.sym 7), .arr 31 1 (.sym 8), .arr 4 1 (.sym 9)] 10 28,
  eL 2 7 29 [(25,o0),(24,o1),(23,o2),(0,(rA 0)),(8,o3),(2,(.arr 6)),(13,o4),(12,o5),(11,o6)] [.box 51 [o7,(.arr 1),(.arr 2),(.arr 3),(.arr 4),(.arr 5)], .arr 3 1 (.sym 8), .arr 3 1 (.sym 9), .arr 3 1 (.sym 10), .arr 3 1 (.sym 11), .arr 31 1 (.sym 12), .arr 4 1 (.sym 13)] 14 29,
  eF 26 [(.arr 0),o0] [.arr 3 1 (.sym 1)] 2 30,
  eL 0 1 26 [(8,o0),(7,o1),(1,o2),(0,(.arr 0))] [.arr 3 1 (.sym 3)] 4 31,
  eF 28 [(.arv 0 (.sym 0) (.sym 1))] [.arr 3 1 (.sym 2)] 3 32,
  eF 8 [o0] [] 1 33,
  eL 0 0 8 [(7,o0),(6,o1),(5,o2),(0,o3)] [] 4 34,
  en60,
  eL 0 0 10 [(4,o0),(0,o1)] [] 2 36,
  eL 2 0 10 [(5,o0),(0,o1),(4,o2)] [] 3 37,
  eL 4 1 10 [(9,o0),(0,o1),(7,(.arr 0)),(6,o2),(8,nA)] [.arr 4 1 (.sym 3)] 4 38,
  rn [3] (eL 4 1 10 [(9,o0),(0,o1),(7,(.arr 0)),(6,o2),(8,(.tsym 1 3))] [.arr 4 1 (.sym 4), tk 31 1 3] 5 38),
  eL 6 1 10 [(11,o0),(0,o1),(10,o2),(7,(.arr 0)),(6,o3),(8,nA),(9,o4)] [.arr 4 1 (.sym 5)] 6 39,
  rn [4] (eL 6 2 10 [(11,o0),(0,o1),(10,o2),(7,(.arr 0)),(6,o3),(8,(.tsym 1 4)),(9,o5)] [.arr 4 1 (.sym 6), tk 31 1 4] 7 40),
  eL 8 1 10 [(13,o0),(0,o1),(12,fA),(6,o2),(11,o3),(7,(.arr 0)),(8,nA),(9,o4),(10,o5)] [.arr 4 1 (.sym 6)] 7 41,
  eL 8 1 10 [(13,o0),(0,o1),(12,tA),(6,o2),(11,o3),(7,(.arr 0)),(8,nA),(9,o4),(10,o5)] [.arr 4 1 (.sym 6)] 7 41,
  rn [4] (eL 8 2 10 [(13,o0),(0,o1),(12,fA),(6,o2),(11,o3),(7,(.arr 0)),(8,(.tsym 1 4)),(9,o5),(10,o6)] [.arr 4 1 (.sym 7), tk 31 1 4] 8 42),
  rn [4] (eL 8 2 10 [(13,o0),(0,o1),(12,tA),(6,o2),(11,o3),(7,(.arr 0)),(8,(.tsym 1 4)),(9,o5),(10,o6)] [.arr 4 1 (.sym 7), tk 31 1 4] 8 42),
  eL 10 1 10 [(15,o0),(0,o1),(6,o2),(10,o3),(14,nA),(7,(.arr 0)),(8,nA),(9,o4)] [.arr 4 1 (.sym 5)] 6 43,
  rn [4] (eL 10 2 10 [(15,o0),(0,o1),(6,o2),(10,o3),(14,nA),(7,(.arr 0)),(8,(.tsym 1 4)),(9,o5)] [.arr 4 1 (.sym 6), tk 31 1 4] 7 44),
  rn [4] (eL 10 1 10 [(15,o0),(0,o1),(6,o2),(10,o3),(14,(.tsym 1 4)),(7,(.arr 0)),(8,nA),(9,o5)] [.arr 4 1 (.sym 6), tk 3 1 4] 7 43),
  rn [4,5] (eL 10 2 10 [(15,o0),(0,o1),(6,o2),(10,o3),(14,(.tsym 2 4)),(7,(.arr 0)),(8,(.tsym 1 5)),(9,o6)] [.arr 4 1 (.sym 7), tk 31 1 5, tk 3 1 4] 8 44),
  eF 11 [o0,o1] [] 2 45,
  eL 0 0 11 [(5,o0),(0,o1),(1,o2)] [] 3 46,
  eL 2 0 11 [(6,o0),(0,o1),(5,o2),(1,o3)] [] 4 47,
  eF 19 (wR 0 3) [] 3 48,
  eF 6 [o0] [] 1 49,
  eL 0 0 6 [(15,o0),(14,o1),(13,o2),(0,o3)] [] 4 50,
  eF 13 [(.agg (wR 0 11)),o11] [] 12 51,
  eF 20 [(.agg (wR 0 11)),o11] [] 12 52,
  eL 0 1 20 [(6,o0),(2,(rA 0)),(5,o1),(1,o2)] [b43_11 3] 14 53,
  eL 2 1 20 [(7,o0),(2,(rA 0)),(5,o1),(1,o2)] [b43_11 3] 14 54,
  eL 4 1 20 [(8,o0),(2,(rA 0)),(5,o1),(1,o2)] [b43_11 3] 14 55,
  en86,
  eL 0 0 14 [(4,o0),(0,o1),(3,nA)] [] 2 57,
  rn [2] (eL 0 0 14 [(4,o0),(0,o1),(3,(.tsym 0 2))] [tk 31 1 2] 3 57),
  eL 2 0 14 [(7,o0),(6,o1),(0,o2),(5,nA),(3,nA),(4,o3)] [] 4 58,
  rn [3] (eL 2 1 14 [(7,o0),(6,o1),(0,o2),(5,nA),(3,(.tsym 0 3)),(4,o4)] [tk 31 1 3] 5 59),
  rn [3] (eL 2 0 14 [(7,o0),(6,o1),(0,o2),(5,(.tsym 0 3)),(3,nA),(4,o4)] [tk 3 1 3] 5 58),
  rn [3,4] (eL 2 1 14 [(7,o0),(6,o1),(0,o2),(5,(.tsym 1 3)),(3,(.tsym 0 4)),(4,o5)] [tk 31 1 4, tk 3 1 3] 6 59),
  eL 4 0 14 [(8,o0),(0,o1),(6,o2),(7,o3),(5,nA),(3,nA),(4,o4)] [] 5 60,
  rn [4] (eL 4 1 14 [(8,o0),(0,o1),(6,o2),(7,o3),(5,nA),(3,(.tsym 0 4)),(4,o5)] [tk 31 1 4] 6 61),
  rn [4] (eL 4 1 14 [(8,o0),(0,o1),(6,o2),(7,o3),(5,(.tsym 0 4)),(3,nA),(4,o5)] [tk 3 1 4] 6 61),
  rn [4,5] (eL 4 2 14 [(8,o0),(0,o1),(6,o2),(7,o3),(5,(.tsym 0 4)),(3,(.tsym 1 5)),(4,o6)] [tk 3 1 4, tk 31 1 5] 7 62),
  rn [4] (eL 4 0 14 [(8,o0),(0,o1),(6,o2),(7,o3),(5,(.tsym 0 4)),(3,nA),(4,o5)] [tk 3 1 4] 6 60),
  rn [4,5] (eL 4 1 14 [(8,o0),(0,o1),(6,o2),(7,o3),(5,(.tsym 1 4)),(3,(.tsym 0 5)),(4,o6)] [tk 31 1 5, tk 3 1 4] 7 61),
  rn [4] (eL 4 1 14 [(8,o0),(0,o1),(6,o2),(7,o3),(5,(.tsym 1 4)),(3,nA),(4,o5)] [.dead, tk 3 1 4] 6 61),
  rn [4,5] (eL 4 2 14 [(8,o0),(0,o1),(6,o2),(7,o3),(5,(.tsym 2 4)),(3,(.tsym 1 5)),(4,o6)] [.dead, tk 31 1 5, tk 3 1 4] 7 62),
  eF 16 [o0] [] 1 63,
  eF 21 [(.agg (wR 0 11))] [] 11 64,
  eL 0 1 21 [(4,o0),(1,(rA 0)),(3,nA)] [b43_11 1] 12 65,
  rn [1] (eL 0 1 21 [(4,o0),(1,(rA 0)),(3,(.tsym 1 1))] [b43_11 2, tk 43 11 1] 13 65),
  eL 3 1 21 [(8,o0),(1,(rA 0)),(6,o1)] [b43_11 2] 13 66,
  en106,
  eL 0 0 30 [(4,o0),(0,o1),(3,nA)] [] 2 68,
  rn [2] (eL 0 0 30 [(4,o0),(0,o1),(3,(.tsym 0 2))] [tk 9 1 2] 3 68),
  en109,
  eL 0 0 32 [(6,o0),(0,o1),(1,o2),(5,nA)] [] 3 70,
  rn [3] (eL 0 0 32 [(6,o0),(0,o1),(1,o2),(5,(.tsym 0 3))] [tk 9 1 3] 4 70),
  en112,
  rn [2] (eL 0 1 33 [(6,o0),(1,o1),(5,(.tsym 0 2))] [tk 9 1 2] 3 72),
  eL 0 0 33 [(6,o0),(1,o1),(5,nA)] [] 2 73,
  rn [2] (eL 0 1 33 [(6,o0),(1,o1),(5,(.tsym 1 2))] [.dead, tk 9 1 2] 3 72),
  rn [2] (eL 0 0 33 [(6,o0),(1,o1),(5,(.tsym 0 2))] [tk 9 1 2] 3 73),
  en117,
  rn [1] (eL 0 2 34 [(4,o0),(1,(rA 0)),(3,(.tsym 1 1))] [b68_5 2, tk 9 1 1] 7 75),
  eL 0 1 34 [(4,o0),(1,(rA 0)),(3,nA)] [b68_5 1] 6 76,
  rn [1] (eL 0 2 34 [(4,o0),(1,(rA 0)),(3,(.tsym 2 1))] [b68_5 2, .dead, tk 9 1 1] 7 75),
  rn [1] (eL 0 1 34 [(4,o0),(1,(rA 0)),(3,(.tsym 1 1))] [b68_5 2, tk 9 1 1] 7 76),
  eF 39 [o0,o1] [] 2 77,
  eL 0 0 39 [(5,o0),(0,o1),(1,o2)] [] 3 78,
  en124,
  eL 0 0 31 [(4,o0),(0,o1),(3,nA)] [] 2 80,
  rn [2] (eL 0 0 31 [(4,o0),(0,o1),(3,(.tsym 0 2))] [tk 9 1 2] 3 80),
  eF 7 [] [] 0 81,
  eF 12 [o0] [] 1 82,
  eF 15 [o0] [] 1 83,
  eF 27 [(.fn 38 [(.ptr 0 0)])] [.box 31 [(.arv 1 (.sym 0) (.sym 1))], .arr 3 1 (.sym 2)] 3 84,
  en131,
  en132,
  en133,
  en134,
  en135,
  en136,
  en137]
def shT : List (List Shape) := [
  [yU (.tup [o0,o1]) 2],
  [yE .ret [(2,o0),(3,o1)] [] 2, yE (.exit 0) [(0,o0),(4,o1)] [] 2],
  [yE .ret [(2,o0),(3,o1)] [] 2, yE (.exit 2) [(15,o0),(14,o1),(13,o2),(4,o3),(0,o4)] [] 5],
  [yE (.exit 4) [(9,(rA 0))] y18 6],
  [yV (.tup []) y18 6, yV (.tup []) y24 6, yV (.tup []) y25 6, yV (.tup []) y9 6],
  [yE (.exit 0) [] [.box 49 [(rA 1)], .box 51 [o0,(.arr 2),(.arr 3),(.arr 4),o1,o2], .arr 3 1 (.sym 3), .arr 3 1 (.sym 4), .arr 3 1 (.sym 5), .box 59 y10, .box 3 [o6]] 7, yE (.exit 0) [] [.box 49 [(rA 1)], .box 51 [o0,(.arr 2),(.arr 3),(.arr 4),o1,(.arr 7)], .arr 3 1 (.sym 2), .arr 3 1 (.sym 3), .arr 3 1 (.sym 4), .box 59 y10, .box 3 [o5], .arr 31 1 (.sym 6)] 7, yE (.exit 0) [] [.box 49 [(rA 1)], .box 51 [o0,(.arr 2),(.arr 3),(.arr 4),(.arr 7),o1], .arr 3 1 (.sym 2), .arr 3 1 (.sym 3), .arr 3 1 (.sym 4), .box 59 y10, .box 3 [o5], .arr 3 1 (.sym 6)] 7, yE (.exit 0) [] [.box 49 [(rA 1)], .box 51 [o0,(.arr 2),(.arr 3),(.arr 4),(.arr 7),(.arr 8)], .arr 3 1 (.sym 1), .arr 3 1 (.sym 2), .arr 3 1 (.sym 3), .box 59 y10, .box 3 [o4], .arr 3 1 (.sym 5), .arr 31 1 (.sym 6)] 7],
  [yV o6 y18 7],
  [yE (.exit 0) [(4,o6)] [.box 51 [o0,(.arr 1),(.arr 2),(.arr 3),o1,o2], .arr 3 1 (.sym 3), .arr 3 1 (.sym 4), .arr 3 1 (.sym 5), .box 4 []] 7],
  [yV o6 y24 7],
  [yE (.exit 0) [(4,o7)] y1 8, yE (.exit 0) [(4,(.arr 6))] y8 8, yE (.exit 0) [(4,o6)] [.box 51 [o0,(.arr 1),(.arr 2),(.arr 3),(.arr 4),o1], .arr 3 1 (.sym 2), .arr 3 1 (.sym 3), .arr 3 1 (.sym 4), .arr 3 1 (.sym 5), .box 4 []] 7],
  [yE (.exit 1) [(4,(.arr 6)),(0,(rA 0)),(3,(.arr 5))] y8 8, yE (.exit 2) [(4,o7),(0,(rA 0)),(3,(.arr 5))] y1 8],
  [yE (.exit 1) [(4,(.arr 7)),(0,(rA 0)),(3,(.arr 5))] [.box 51 [o0,(.arr 1),(.arr 2),(.arr 3),o1,(.arr 4)], .arr 3 1 (.sym 2), .arr 3 1 (.sym 3), .arr 3 1 (.sym 4), .arr 31 1 (.sym 5), .arr 4 1 (.sym 6), .dead, .arr 31 1 (.sym 7)] 8, yE (.exit 2) [(4,(.arr 6)),(0,(rA 0)),(3,(.arr 5))] y8 8, yE (.exit 1) [(4,(.arr 7)),(0,(rA 0)),(3,(.arr 6))] y2 8, yE (.exit 2) [(4,o7),(0,(rA 0)),(3,(.arr 6))] y0 8],
  [yV o6 y25 7],
  [yV o6 y9 7],
  [yE (.exit 0) [(4,o7)] y0 8, yE (.exit 0) [(4,(.arr 7))] y2 8],
  [yE (.exit 1) [(4,(.arr 8)),(0,(rA 0)),(3,(.arr 6))] [.box 51 [o0,(.arr 1),(.arr 2),(.arr 3),(.arr 4),(.arr 5)], .arr 3 1 (.sym 1), .arr 3 1 (.sym 2), .arr 3 1 (.sym 3), .arr 3 1 (.sym 4), .arr 31 1 (.sym 5), .arr 4 1 (.sym 6), .dead, .arr 31 1 (.sym 7)] 8, yE (.exit 2) [(4,(.arr 7)),(0,(rA 0)),(3,(.arr 6))] y2 8],
  [yV (.tup []) [.box 3 [o0], .box 49 [(rA 2)], .box 51 [o1,(.arr 3),(.arr 4),(.arr 5),(.arr 7),o2], .arr 3 1 (.sym 3), .arr 3 1 (.sym 4), .arr 3 1 (.sym 5), .box 59 y29, .arr 3 1 (.sym 6)] 7, yV (.tup []) [.box 3 [o0], .box 49 [(rA 2)], .box 51 [o1,(.arr 3),(.arr 4),(.arr 5),(.arr 7),(.arr 8)], .arr 3 1 (.sym 2), .arr 3 1 (.sym 3), .arr 3 1 (.sym 4), .box 59 y29, .arr 3 1 (.sym 5), .arr 31 1 (.sym 6)] 7],
  [yE (.exit 0) y27 [.box 49 [(rA 1)], .box 51 [o0,(.arr 2),(.arr 3),(.arr 4),(.arr 5),o1], .arr 3 1 (.sym 2), .arr 3 1 (.sym 3), .arr 3 1 (.sym 4), .arr 3 1 (.sym 5), .box 59 y4, .box 3 [o6]] 8, yE (.exit 0) y27 [.box 49 [(rA 1)], .box 51 [o0,(.arr 2),(.arr 3),(.arr 4),(.arr 5),(.arr 8)], .arr 3 1 (.sym 1), .arr 3 1 (.sym 2), .arr 3 1 (.sym 3), .arr 3 1 (.sym 4), .box 59 y4, .box 3 [o5], .arr 31 1 (.sym 6)] 8, yE (.exit 0) y27 [.box 49 [(rA 1)], .box 51 [o0,(.arr 2),(.arr 3),(.arr 4),(.arr 8),o1], .arr 3 1 (.sym 2), .arr 3 1 (.sym 3), .arr 3 1 (.sym 4), .dead, .box 59 y4, .box 3 [o5], .arr 3 1 (.sym 6)] 8, yE (.exit 0) y27 [.box 49 [(rA 1)], .box 51 [o0,(.arr 2),(.arr 3),(.arr 4),(.arr 8),(.arr 9)], .arr 3 1 (.sym 1), .arr 3 1 (.sym 2), .arr 3 1 (.sym 3), .dead, .box 59 y4, .box 3 [o4], .arr 3 1 (.sym 5), .arr 31 1 (.sym 6)] 8],
  [yE (.exit 3) [(2,(rA 0)),(8,o6)] [.box 49 [(rA 1)], .box 51 [o0,(.arr 2),(.arr 3),(.arr 4),(.arr 5),o1], .arr 3 1 (.sym 2), .arr 3 1 (.sym 3), .arr 3 1 (.sym 4), .arr 3 1 (.sym 5)] 7],
  [yE (.exit 3) [(2,(rA 0)),(8,o6)] [.box 49 [(rA 1)], .box 51 [o0,(.arr 2),(.arr 3),(.arr 4),(.arr 5),(.arr 6)], .arr 3 1 (.sym 1), .arr 3 1 (.sym 2), .arr 3 1 (.sym 3), .arr 3 1 (.sym 4), .arr 31 1 (.sym 5)] 7],
  [yV (.tup []) [.box 3 [o0], .box 49 [(rA 2)], .box 51 [o1,(.arr 3),(.arr 4),(.arr 5),(.arr 8),(.arr 6)], .arr 3 1 (.sym 2), .arr 3 1 (.sym 3), .arr 3 1 (.sym 4), .arr 31 1 (.sym 5), .box 59 y13, .arr 3 1 (.sym 6)] 7, yV (.tup []) y17 7],
  [yE (.exit 0) y27 [.box 49 [(rA 1)], .box 51 [o0,(.arr 2),(.arr 3),(.arr 4),(.arr 5),(.arr 6)], .arr 3 1 (.sym 1), .arr 3 1 (.sym 2), .arr 3 1 (.sym 3), .arr 3 1 (.sym 4), .arr 31 1 (.sym 5), .box 59 y5, .box 3 [o6]] 8, yE (.exit 0) y27 [.box 49 [(rA 1)], .box 51 [o0,(.arr 2),(.arr 3),(.arr 4),(.arr 5),(.arr 9)], .arr 3 1 (.sym 1), .arr 3 1 (.sym 2), .arr 3 1 (.sym 3), .arr 3 1 (.sym 4), .dead, .box 59 y5, .box 3 [o5], .arr 31 1 (.sym 6)] 8, yE (.exit 0) y27 [.box 49 [(rA 1)], .box 51 [o0,(.arr 2),(.arr 3),(.arr 4),(.arr 9),(.arr 6)], .arr 3 1 (.sym 1), .arr 3 1 (.sym 2), .arr 3 1 (.sym 3), .dead, .arr 31 1 (.sym 4), .box 59 y5, .box 3 [o5], .arr 3 1 (.sym 6)] 8, yE (.exit 0) y27 [.box 49 [(rA 1)], .box 51 [o0,(.arr 2),(.arr 3),(.arr 4),(.arr 9),(.arr 10)], .arr 3 1 (.sym 1), .arr 3 1 (.sym 2), .arr 3 1 (.sym 3), .dead, .dead, .box 59 y5, .box 3 [o4], .arr 3 1 (.sym 5), .arr 31 1 (.sym 6)] 8],
  [yV (.tup []) [.box 3 [o0], .box 49 [(rA 2)], .box 51 [o1,(.arr 3),(.arr 4),(.arr 5),(.arr 8),o2], .arr 3 1 (.sym 3), .arr 3 1 (.sym 4), .arr 3 1 (.sym 5), .dead, .box 59 y13, .arr 3 1 (.sym 6)] 7, yV (.tup []) y17 7],
  [yV (.tup []) [.box 3 [o0], .box 49 [(rA 2)], .box 51 [o1,(.arr 3),(.arr 4),(.arr 5),(.arr 9),(.arr 7)], .arr 3 1 (.sym 2), .arr 3 1 (.sym 3), .arr 3 1 (.sym 4), .dead, .arr 31 1 (.sym 5), .box 59 y30, .arr 3 1 (.sym 6)] 7, yV (.tup []) [.box 3 [o0], .box 49 [(rA 2)], .box 51 [o1,(.arr 3),(.arr 4),(.arr 5),(.arr 9),(.arr 10)], .arr 3 1 (.sym 2), .arr 3 1 (.sym 3), .arr 3 1 (.sym 4), .dead, .dead, .box 59 y30, .arr 3 1 (.sym 5), .arr 31 1 (.sym 6)] 7],
  [yV o7 y1 8],
  [yE .ret [(6,o7)] y1 8, yE (.exit 0) [] y1 7],
  [yE .ret [(6,o7)] y1 8, yE (.exit 2) [(13,o7),(12,o8),(11,o9),(0,(rA 0)),(2,(.arr 5))] y1 10],
  [yV o7 y0 8],
  [yE .ret [(6,o7)] y0 8, yE (.exit 0) [] y0 7],
  [yE .ret [(6,o7)] y0 8, yE (.exit 2) [(13,o7),(12,o8),(11,o9),(0,(rA 0)),(2,(.arr 6))] y0 10],
  [yV o1 [.arr 3 1 (.sym 0)] 2],
  [yE .ret [(4,o1)] [.arr 3 1 (.sym 0)] 2, yE (.exit 0) [] [.arr 3 1 (.sym 0)] 1],
  [yV (.fn 38 [(.ptr 1 0)]) [.arr 3 1 (.sym 0), .box 31 [(.arv 0 (.sym 1) (.sym 2))]] 3],
  [yU o0 1],
  [yE .ret [(2,o0)] [] 1, yE (.exit 0) [(0,o0)] [] 1],
  [yU (.tup [o0,o1]) 2, yW (.tup [(.tsym 0 0),o1]) [tk 31 1 0] 2 [0]],
  [yE .ret [(2,o0),(3,o1)] [] 2, yE (.exit 0) [(0,o0)] [] 1],
  [yE .ret [(2,o0),(3,o1)] [] 2, yE (.exit 2) [(4,o0),(0,o1)] [] 2],
  [yE (.exit 4) [(8,o1)] [.arr 4 1 (.sym 0)] 2, yR (.exit 4) [(8,(.tsym 1 1))] [.arr 4 1 (.sym 0), tk 31 1 1] 2 [1]],
  [yE (.exit 6) [(10,o1),(0,o2),(6,o3),(7,(.arr 0)),(8,o4),(9,o5)] [.arr 4 1 (.sym 0)] 6],
  [yR (.exit 6) [(10,o1),(0,o2),(6,o3),(7,(.arr 0)),(8,(.tsym 1 4)),(9,o5)] [.arr 4 1 (.sym 0), tk 31 1 4] 6 [4]],
  [yE (.exit 8) [(12,o1),(11,o2),(0,o3),(7,(.arr 0)),(6,o4),(8,o5),(9,o6),(10,o7)] [.arr 4 1 (.sym 0)] 8],
  [yR (.exit 8) [(12,o1),(11,o2),(0,o3),(7,(.arr 0)),(6,o4),(8,(.tsym 1 5)),(9,o6),(10,o7)] [.arr 4 1 (.sym 0), tk 31 1 5] 8 [5]],
  [yE (.exit 10) [(8,o1),(14,o2),(9,o3),(0,o4),(7,(.arr 0)),(6,o5)] [.arr 4 1 (.sym 0)] 6, yR (.exit 10) [(8,o1),(14,(.tsym 1 2)),(9,o3),(0,o4),(7,(.arr 0)),(6,o5)] [.arr 4 1 (.sym 0), tk 3 1 2] 6 [2]],
  [yR (.exit 10) [(8,(.tsym 1 1)),(14,o2),(9,o3),(0,o4),(7,(.arr 0)),(6,o5)] [.arr 4 1 (.sym 0), tk 31 1 1] 6 [1], yR (.exit 10) [(8,(.tsym 1 1)),(14,(.tsym 2 2)),(9,o3),(0,o4),(7,(.arr 0)),(6,o5)] [.arr 4 1 (.sym 0), tk 31 1 1, tk 3 1 2] 6 [1,2]],
  [yU o0 1],
  [yE .ret [(4,o0)] [] 1, yE (.exit 0) [] [] 0],
  [yE .ret [(4,o0)] [] 1, yE (.exit 2) [(5,o0),(0,o1),(1,o2)] [] 3],
  [yU o0 1],
  [yU o0 1],
  [yE .ret [(2,o0)] [] 1, yE (.exit 0) [(0,o0)] [] 1],
  [yU o0 1],
  [yU o0 1],
  [yE (.exit 0) [(2,(rA 0)),(5,o11),(1,o12)] [b43_11 0] 13],
  [yE (.exit 2) [(2,(rA 0)),(5,o11),(1,o12)] [b43_11 0] 13],
  [yE (.exit 4) [(5,o11)] [b43_11 0] 12],
  [yU o0 1, yW (.tsym 0 0) [tk 31 1 0] 1 [0]],
  [yE (.exit 0) [(3,o0)] [] 1, yR (.exit 0) [(3,(.tsym 0 0))] [tk 31 1 0] 1 [0]],
  [yE (.exit 2) [(3,o0),(5,o1),(4,o2),(0,o3)] [] 4, yR (.exit 2) [(3,o0),(5,(.tsym 0 1)),(4,o2),(0,o3)] [tk 3 1 1] 4 [1]],
  [yR (.exit 2) [(3,(.tsym 0 0)),(5,o1),(4,o2),(0,o3)] [tk 31 1 0] 4 [0], yR (.exit 2) [(3,(.tsym 0 0)),(5,(.tsym 1 1)),(4,o2),(0,o3)] [tk 31 1 0, tk 3 1 1] 4 [0,1]],
  [yE (.exit 4) [(7,o0),(6,o1),(0,o2),(5,o3),(3,o4),(4,o5)] [] 6, yR (.exit 4) [(7,o0),(6,o1),(0,o2),(5,(.tsym 0 3)),(3,o4),(4,o5)] [tk 3 1 3] 6 [3]],
  [yR (.exit 4) [(7,o0),(6,o1),(0,o2),(5,o3),(3,(.tsym 0 4)),(4,o5)] [tk 31 1 4] 6 [4], yR (.exit 4) [(7,o0),(6,o1),(0,o2),(5,(.tsym 0 3)),(3,o4),(4,o5)] [tk 3 1 3] 6 [3], yR (.exit 4) [(7,o0),(6,o1),(0,o2),(5,(.tsym 1 3)),(3,(.tsym 0 4)),(4,o5)] [tk 31 1 4, tk 3 1 3] 6 [3,4], yR (.exit 4) [(7,o0),(6,o1),(0,o2),(5,(.tsym 1 3)),(3,o4),(4,o5)] [.dead, tk 3 1 3] 6 [3]],
  [yR (.exit 4) [(7,o0),(6,o1),(0,o2),(5,(.tsym 0 3)),(3,(.tsym 1 4)),(4,o5)] [tk 3 1 3, tk 31 1 4] 6 [3,4], yR (.exit 4) [(7,o0),(6,o1),(0,o2),(5,(.tsym 2 3)),(3,(.tsym 1 4)),(4,o5)] [.dead, tk 31 1 4, tk 3 1 3] 6 [3,4]],
  [yU o0 1],
  [yU o0 1],
  [yE (.exit 0) [(1,(rA 0)),(3,o11)] [b43_11 0] 12, yR (.exit 0) [(1,(rA 0)),(3,(.tsym 1 11))] [b43_11 0, tk 43 11 11] 12 [11]],
  [yE (.exit 3) [(6,o11)] [b43_11 0] 12],
  y31,
  [yE (.exit 0) [(3,o0)] [] 1, yR (.exit 0) [(3,(.tsym 0 0))] [tk 9 1 0] 1 [0]],
  y31,
  [yE (.exit 0) [(5,o0)] [] 1, yR (.exit 0) [(5,(.tsym 0 0))] [tk 9 1 0] 1 [0]],
  [yW (.tsym 0 0) [tk 9 1 0] 1 [0], yU o0 1],
  [yR (.exit 0) [(5,(.tsym 0 0))] [tk 9 1 0] 1 [0], yR (.exit 0) [(5,(.tsym 1 0))] [.dead, tk 9 1 0] 1 [0]],
  [yE (.exit 0) [(5,o0)] [] 1, yR (.exit 0) [(5,(.tsym 0 0))] [tk 9 1 0] 1 [0]],
  [yW (.tsym 0 0) [tk 9 1 0] 1 [0], yU o0 1],
  [yR (.exit 0) [(3,(.tsym 1 5))] [b68_5 0, tk 9 1 5] 6 [5], yR (.exit 0) [(3,(.tsym 2 5))] [b68_5 0, .dead, tk 9 1 5] 6 [5]],
  [yE (.exit 0) [(3,o5)] [b68_5 0] 6, yR (.exit 0) [(3,(.tsym 1 5))] [b68_5 0, tk 9 1 5] 6 [5]],
  [yU o0 1],
  [yE .ret [(4,o0)] [] 1, yE (.exit 0) [] [] 0],
  y31,
  [yE (.exit 0) [(3,o0)] [] 1, yR (.exit 0) [(3,(.tsym 0 0))] [tk 9 1 0] 1 [0]],
  [yU o0 1],
  [yU o0 1],
  [yU o0 1],
  [yV o3 [.box 31 [(.arv 1 (.sym 0) (.sym 1))], .arr 3 1 (.sym 2)] 4],
  [yU o0 1],
  [yU (.tup [o0,o1]) 2],
  [yU o0 1],
  [yU o0 1],
  [yU o0 1],
  [yU o0 1],
  [yU o0 1]]
noncomputable def etL : List Et := [k1 g9, k5 g9b0a, k8 g9b2a, k6 g9b4a, k4 g17a, k7 g17ab0a, k8 g17ab0b, k8 g17ab0c, k9 g17ab0d, k4 g18a, k4 g18ab0a, k5 g18b, k6 g18bb0a, k7 g18bb0b, k8 g18bb2a, k9 g18bb2b, k5 g18c, k5 g18cb0a, k6 g18d, k7 g18db0a, k8 g18db0b, k9 g18db2a, k10 g18db2b, k6 g25a, k10 g25ab0a, k11 g25ab0b, k10 g25ab0c, k11 g25ab0d, k9 g25ab3a, k10 g25ab3b, k7 g25b, k11 g25bb0a, k11 g25bb0b, k11 g25bb0c, k11 g25bb0d, k10 g25bb3a, k7 g25c, k10 g25cb0a, k11 g25cb0b, k10 g25cb0c, k11 g25cb0d, k9 g25cb3a, k10 g25cb3b, k8 g25d, k11 g25db0a, k11 g25db0b, k11 g25db0c, k11 g25db0d, k10 g25db3a, k7 g29a, k9 g29ab0a, k13 g29ab2a, k8 g29b, k10 g29bb0a, k14 g29bb2a, k2 g26a, k4 g26ab0a, k3 g28a, k1 g8, k4 g8b0a, k1 g10, k2 g10b0a, k3 g10b2a, k4 g10b4a, k5 g10b4b, k6 g10b6a, k7 g10b6b, k7 g10b8a, k7 g10b8b, k8 g10b8c, k8 g10b8d, k6 g10b10a, k7 g10b10b, k7 g10b10c, k8 g10b10d, k2 g11, k3 g11b0a, k4 g11b2a, k3 g19, k1 g6, k4 g6b0a, k12 g13, k12 g20, k14 g20b0a, k14 g20b2a, k14 g20b4a, k1 g14, k2 g14b0a, k3 g14b0b, k4 g14b2a, k5 g14b2b, k5 g14b2c, k6 g14b2d, k5 g14b4a, k6 g14b4b, k6 g14b4c, k7 g14b4d, k6 g14b4e, k7 g14b4f, k6 g14b4g, k7 g14b4h, k1 g16, k11 g21, k12 g21b0a, k13 g21b0b, k13 g21b3a, k1 g30, k2 g30b0a, k3 g30b0b, k2 g32, k3 g32b0a, k4 g32b0b, k2 g33, k3 g33b0a, k2 g33b0b, k3 g33b0c, k3 g33b0d, k5 g34, k7 g34b0a, k6 g34b0b, k7 g34b0c, k7 g34b0d, k2 g39, k3 g39b0a, k1 g31, k2 g31b0a, k3 g31b0b, .ext awkP, .ext rchP, .ext ndsP, .ext srtV, etNo, etNo, etNo, etNo, etNo, etNo, etNo]
def SS : Nat → List Shape := nth [] shT
def EE : Nat → Ent := nth dEn enL
noncomputable def TT : Nat → Et := nth etNo etL
noncomputable abbrev ev : Q → Option Rs := Evl PG EE TT
abbrev RK (k : Nat) : Prop := RuleOk PG SS EE TT k
abbrev q9 (a : PV) : Q := ⟨0, [a]⟩
abbrev q9b0a (a b c d e : PV) : Q := ⟨1, [a, b, c, d, e]⟩
abbrev q9b2a (a b c d e f g h : PV) : Q := ⟨2, [a, b, c, d, e, f, g, h]⟩
abbrev q9b4a (a b c d e f : PV) : Q := ⟨3, [a, b, c, d, e, f]⟩
abbrev q17a (a b c d : PV) : Q := ⟨4, [a, b, c, d]⟩
abbrev q17ab0a (a b c d e f g : PV) : Q := ⟨5, [a, b, c, d, e, f, g]⟩
abbrev q17ab0b (a b c d e f g h : PV) : Q := ⟨6, [a, b, c, d, e, f, g, h]⟩
abbrev q17ab0c (a b c d e f g h : PV) : Q := ⟨7, [a, b, c, d, e, f, g, h]⟩
abbrev q17ab0d (a b c d e f g h i : PV) : Q := ⟨8, [a, b, c, d, e, f, g, h, i]⟩
abbrev q18a (a b c d : PV) : Q := ⟨9, [a, b, c, d]⟩
abbrev q18ab0a (a b c d : PV) : Q := ⟨10, [a, b, c, d]⟩
abbrev q18b (a b c d e : PV) : Q := ⟨11, [a, b, c, d, e]⟩
abbrev q18bb0a (a b c d e f : PV) : Q := ⟨12, [a, b, c, d, e, f]⟩
abbrev q18bb0b (a b c d e f g : PV) : Q := ⟨13, [a, b, c, d, e, f, g]⟩
abbrev q18bb2a (a b c d e f g h : PV) : Q := ⟨14, [a, b, c, d, e, f, g, h]⟩
abbrev q18bb2b (a b c d e f g h i : PV) : Q := ⟨15, [a, b, c, d, e, f, g, h, i]⟩
abbrev q18c (a b c d e : PV) : Q := ⟨16, [a, b, c, d, e]⟩
abbrev q18cb0a (a b c d e : PV) : Q := ⟨17, [a, b, c, d, e]⟩
abbrev q18d (a b c d e f : PV) : Q := ⟨18, [a, b, c, d, e, f]⟩
abbrev q18db0a (a b c d e f g : PV) : Q := ⟨19, [a, b, c, d, e, f, g]⟩
abbrev q18db0b (a b c d e f g h : PV) : Q := ⟨20, [a, b, c, d, e, f, g, h]⟩
abbrev q18db2a (a b c d e f g h i : PV) : Q := ⟨21, [a, b, c, d, e, f, g, h, i]⟩
abbrev q18db2b (a b c d e f g h i j : PV) : Q := ⟨22, [a, b, c, d, e, f, g, h, i, j]⟩
abbrev q25a (a b c d e f : PV) : Q := ⟨23, [a, b, c, d, e, f]⟩
abbrev q25ab0a (a b c d e f g h i j : PV) : Q := ⟨24, [a, b, c, d, e, f, g, h, i, j]⟩
abbrev q25ab0b (a b c d e f g h i j k : PV) : Q := ⟨25, [a, b, c, d, e, f, g, h, i, j, k]⟩
abbrev q25ab0c (a b c d e f g h i j : PV) : Q := ⟨26, [a, b, c, d, e, f, g, h, i, j]⟩
abbrev q25ab0d (a b c d e f g h i j k : PV) : Q := ⟨27, [a, b, c, d, e, f, g, h, i, j, k]⟩
abbrev q25ab3a (a b c d e f g h i : PV) : Q := ⟨28, [a, b, c, d, e, f, g, h, i]⟩
abbrev q25ab3b (a b c d e f g h i j : PV) : Q := ⟨29, [a, b, c, d, e, f, g, h, i, j]⟩
abbrev q25b (a b c d e f g : PV) : Q := ⟨30, [a, b, c, d, e, f, g]⟩
abbrev q25bb0a (a b c d e f g h i j k : PV) : Q := ⟨31, [a, b, c, d, e, f, g, h, i, j, k]⟩
abbrev q25bb0b (a b c d e f g h i j k : PV) : Q := ⟨32, [a, b, c, d, e, f, g, h, i, j, k]⟩
abbrev q25bb0c (a b c d e f g h i j k : PV) : Q := ⟨33, [a, b, c, d, e, f, g, h, i, j, k]⟩
abbrev q25bb0d (a b c d e f g h i j k : PV) : Q := ⟨34, [a, b, c, d, e, f, g, h, i, j, k]⟩
abbrev q25bb3a (a b c d e f g h i j : PV) : Q := ⟨35, [a, b, c, d, e, f, g, h, i, j]⟩
abbrev q25c (a b c d e f g : PV) : Q := ⟨36, [a, b, c, d, e, f, g]⟩
abbrev q25cb0a (a b c d e f g h i j : PV) : Q := ⟨37, [a, b, c, d, e, f, g, h, i, j]⟩
abbrev q25cb0b (a b c d e f g h i j k : PV) : Q := ⟨38, [a, b, c, d, e, f, g, h, i, j, k]⟩
abbrev q25cb0c (a b c d e f g h i j : PV) : Q := ⟨39, [a, b, c, d, e, f, g, h, i, j]⟩
abbrev q25cb0d (a b c d e f g h i j k : PV) : Q := ⟨40, [a, b, c, d, e, f, g, h, i, j, k]⟩
abbrev q25cb3a (a b c d e f g h i : PV) : Q := ⟨41, [a, b, c, d, e, f, g, h, i]⟩
abbrev q25cb3b (a b c d e f g h i j : PV) : Q := ⟨42, [a, b, c, d, e, f, g, h, i, j]⟩
abbrev q25d (a b c d e f g h : PV) : Q := ⟨43, [a, b, c, d, e, f, g, h]⟩
abbrev q25db0a (a b c d e f g h i j k : PV) : Q := ⟨44, [a, b, c, d, e, f, g, h, i, j, k]⟩
abbrev q25db0b (a b c d e f g h i j k : PV) : Q := ⟨45, [a, b, c, d, e, f, g, h, i, j, k]⟩
abbrev q25db0c (a b c d e f g h i j k : PV) : Q := ⟨46, [a, b, c, d, e, f, g, h, i, j, k]⟩
abbrev q25db0d (a b c d e f g h i j k : PV) : Q := ⟨47, [a, b, c, d, e, f, g, h, i, j, k]⟩
abbrev q25db3a (a b c d e f g h i j : PV) : Q := ⟨48, [a, b, c, d, e, f, g, h, i, j]⟩
abbrev q29a (a b c d e f g : PV) : Q := ⟨49, [a, b, c, d, e, f, g]⟩
abbrev q29ab0a (a b c d e f g h i : PV) : Q := ⟨50, [a, b, c, d, e, f, g, h, i]⟩
abbrev q29ab2a (a b c d e f g h i j k l m : PV) : Q := ⟨51, [a, b, c, d, e, f, g, h, i, j, k, l, m]⟩
abbrev q29b (a b c d e f g h : PV) : Q := ⟨52, [a, b, c, d, e, f, g, h]⟩
abbrev q29bb0a (a b c d e f g h i j : PV) : Q := ⟨53, [a, b, c, d, e, f, g, h, i, j]⟩
abbrev q29bb2a (a b c d e f g h i j k l m n : PV) : Q := ⟨54, [a, b, c, d, e, f, g, h, i, j, k, l, m, n]⟩
abbrev q26a (a b : PV) : Q := ⟨55, [a, b]⟩
abbrev q26ab0a (a b c d : PV) : Q := ⟨56, [a, b, c, d]⟩
abbrev q28a (a b c : PV) : Q := ⟨57, [a, b, c]⟩
abbrev q8 (a : PV) : Q := ⟨58, [a]⟩
abbrev q8b0a (a b c d : PV) : Q := ⟨59, [a, b, c, d]⟩
abbrev q10 (a : PV) : Q := ⟨60, [a]⟩
abbrev q10b0a (a b : PV) : Q := ⟨61, [a, b]⟩
abbrev q10b2a (a b c : PV) : Q := ⟨62, [a, b, c]⟩
abbrev q10b4a (a b c d : PV) : Q := ⟨63, [a, b, c, d]⟩
abbrev q10b4b (a b c : PV) (d : List (List PV)) (e : PV) : Q := ⟨64, [a, b, c, .rows d, e]⟩
abbrev q10b6a (a b c d e f : PV) : Q := ⟨65, [a, b, c, d, e, f]⟩
abbrev q10b6b (a b c d : PV) (e : List (List PV)) (f g : PV) : Q := ⟨66, [a, b, c, d, .rows e, f, g]⟩
abbrev q10b8a (a b c d e f g : PV) : Q := ⟨67, [a, b, c, d, e, f, g]⟩
abbrev q10b8b (a b c d e f g : PV) : Q := ⟨68, [a, b, c, d, e, f, g]⟩
abbrev q10b8c (a b c d : PV) (e : List (List PV)) (f g h : PV) : Q := ⟨69, [a, b, c, d, .rows e, f, g, h]⟩
abbrev q10b8d (a b c d : PV) (e : List (List PV)) (f g h : PV) : Q := ⟨70, [a, b, c, d, .rows e, f, g, h]⟩
abbrev q10b10a (a b c d e f : PV) : Q := ⟨71, [a, b, c, d, e, f]⟩
abbrev q10b10b (a b c d : PV) (e : List (List PV)) (f g : PV) : Q := ⟨72, [a, b, c, d, .rows e, f, g]⟩
abbrev q10b10c (a b c d : PV) (e : List (List PV)) (f g : PV) : Q := ⟨73, [a, b, c, d, .rows e, f, g]⟩
abbrev q10b10d (a b c d : PV) (e f : List (List PV)) (g h : PV) : Q := ⟨74, [a, b, c, d, .rows e, .rows f, g, h]⟩
abbrev q11 (a b : PV) : Q := ⟨75, [a, b]⟩
abbrev q11b0a (a b c : PV) : Q := ⟨76, [a, b, c]⟩
abbrev q11b2a (a b c d : PV) : Q := ⟨77, [a, b, c, d]⟩
abbrev q19 (a b c : PV) : Q := ⟨78, [a, b, c]⟩
abbrev q6 (a : PV) : Q := ⟨79, [a]⟩
abbrev q6b0a (a b c d : PV) : Q := ⟨80, [a, b, c, d]⟩
abbrev q13 (a b c d e f g h i j k l : PV) : Q := ⟨81, [a, b, c, d, e, f, g, h, i, j, k, l]⟩
abbrev q20 (a b c d e f g h i j k l : PV) : Q := ⟨82, [a, b, c, d, e, f, g, h, i, j, k, l]⟩
abbrev q20b0a (a b c d e f g h i j k l m n : PV) : Q := ⟨83, [a, b, c, d, e, f, g, h, i, j, k, l, m, n]⟩
abbrev q20b2a (a b c d e f g h i j k l m n : PV) : Q := ⟨84, [a, b, c, d, e, f, g, h, i, j, k, l, m, n]⟩
abbrev q20b4a (a b c d e f g h i j k l m n : PV) : Q := ⟨85, [a, b, c, d, e, f, g, h, i, j, k, l, m, n]⟩
abbrev q14 (a : PV) : Q := ⟨86, [a]⟩
abbrev q14b0a (a b : PV) : Q := ⟨87, [a, b]⟩
abbrev q14b0b (a b : PV) (c : List (List PV)) : Q := ⟨88, [a, b, .rows c]⟩
abbrev q14b2a (a b c d : PV) : Q := ⟨89, [a, b, c, d]⟩
abbrev q14b2b (a b c : PV) (d : List (List PV)) (e : PV) : Q := ⟨90, [a, b, c, .rows d, e]⟩
abbrev q14b2c (a b c : PV) (d : List (List PV)) (e : PV) : Q := ⟨91, [a, b, c, .rows d, e]⟩
abbrev q14b2d (a b c : PV) (d e : List (List PV)) (f : PV) : Q := ⟨92, [a, b, c, .rows d, .rows e, f]⟩
abbrev q14b4a (a b c d e : PV) : Q := ⟨93, [a, b, c, d, e]⟩
abbrev q14b4b (a b c d : PV) (e : List (List PV)) (f : PV) : Q := ⟨94, [a, b, c, d, .rows e, f]⟩
abbrev q14b4c (a b c d : PV) (e : List (List PV)) (f : PV) : Q := ⟨95, [a, b, c, d, .rows e, f]⟩
abbrev q14b4d (a b c d : PV) (e f : List (List PV)) (g : PV) : Q := ⟨96, [a, b, c, d, .rows e, .rows f, g]⟩
abbrev q14b4e (a b c d : PV) (e : List (List PV)) (f : PV) : Q := ⟨97, [a, b, c, d, .rows e, f]⟩
abbrev q14b4f (a b c d : PV) (e f : List (List PV)) (g : PV) : Q := ⟨98, [a, b, c, d, .rows e, .rows f, g]⟩
abbrev q14b4g (a b c d : PV) (e : List (List PV)) (f : PV) : Q := ⟨99, [a, b, c, d, .rows e, f]⟩
abbrev q14b4h (a b c d : PV) (e f : List (List PV)) (g : PV) : Q := ⟨100, [a, b, c, d, .rows e, .rows f, g]⟩
abbrev q16 (a : PV) : Q := ⟨101, [a]⟩
abbrev q21 (a b c d e f g h i j k : PV) : Q := ⟨102, [a, b, c, d, e, f, g, h, i, j, k]⟩
abbrev q21b0a (a b c d e f g h i j k l : PV) : Q := ⟨103, [a, b, c, d, e, f, g, h, i, j, k, l]⟩
abbrev q21b0b (a : PV) (b : List (List PV)) (c d e f g h i j k l m : PV) : Q := ⟨104, [a, .rows b, c, d, e, f, g, h, i, j, k, l, m]⟩
abbrev q21b3a (a b c d e f g h i j k l m : PV) : Q := ⟨105, [a, b, c, d, e, f, g, h, i, j, k, l, m]⟩
abbrev q30 (a : PV) : Q := ⟨106, [a]⟩
abbrev q30b0a (a b : PV) : Q := ⟨107, [a, b]⟩
abbrev q30b0b (a b : PV) (c : List (List PV)) : Q := ⟨108, [a, b, .rows c]⟩
abbrev q32 (a b : PV) : Q := ⟨109, [a, b]⟩
abbrev q32b0a (a b c : PV) : Q := ⟨110, [a, b, c]⟩
abbrev q32b0b (a b c : PV) (d : List (List PV)) : Q := ⟨111, [a, b, c, .rows d]⟩
abbrev q33 (a b : PV) : Q := ⟨112, [a, b]⟩
abbrev q33b0a (a b : PV) (c : List (List PV)) : Q := ⟨113, [a, b, .rows c]⟩
abbrev q33b0b (a b : PV) : Q := ⟨114, [a, b]⟩
abbrev q33b0c (a b : PV) (c : List (List PV)) : Q := ⟨115, [a, b, .rows c]⟩
abbrev q33b0d (a b : PV) (c : List (List PV)) : Q := ⟨116, [a, b, .rows c]⟩
abbrev q34 (a b c d e : PV) : Q := ⟨117, [a, b, c, d, e]⟩
abbrev q34b0a (a : PV) (b : List (List PV)) (c d e f g : PV) : Q := ⟨118, [a, .rows b, c, d, e, f, g]⟩
abbrev q34b0b (a b c d e f : PV) : Q := ⟨119, [a, b, c, d, e, f]⟩
abbrev q34b0c (a : PV) (b : List (List PV)) (c d e f g : PV) : Q := ⟨120, [a, .rows b, c, d, e, f, g]⟩
abbrev q34b0d (a : PV) (b : List (List PV)) (c d e f g : PV) : Q := ⟨121, [a, .rows b, c, d, e, f, g]⟩
abbrev q39 (a b : PV) : Q := ⟨122, [a, b]⟩
abbrev q39b0a (a b c : PV) : Q := ⟨123, [a, b, c]⟩
abbrev q31 (a : PV) : Q := ⟨124, [a]⟩
abbrev q31b0a (a b : PV) : Q := ⟨125, [a, b]⟩
abbrev q31b0b (a b : PV) (c : List (List PV)) : Q := ⟨126, [a, b, .rows c]⟩
abbrev q7 : Q := ⟨127, []⟩
abbrev q12 (a : PV) : Q := ⟨128, [a]⟩
abbrev q15 (a : PV) : Q := ⟨129, [a]⟩
abbrev q27 (a b c : PV) : Q := ⟨130, [a, b, c]⟩
abbrev q14w (a : PV) : Q := ⟨131, [a]⟩
abbrev q10w (a : PV) : Q := ⟨132, [a]⟩
abbrev q30w (a : PV) : Q := ⟨133, [a]⟩
abbrev q31w (a : PV) : Q := ⟨134, [a]⟩
abbrev q32w (a b : PV) : Q := ⟨135, [a, b]⟩
abbrev q33w (a b : PV) : Q := ⟨136, [a, b]⟩
abbrev q34w (a b c d e : PV) : Q := ⟨137, [a, b, c, d, e]⟩
end Go.Proofs.Ytkfdklocgpgbfaa
