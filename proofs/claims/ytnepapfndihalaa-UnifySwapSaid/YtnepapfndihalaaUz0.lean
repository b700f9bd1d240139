/- What the entries ask and mean, written once. Printed by hq.py. -/
import Derived.Test.YtnepapfndihalaaBc
import Derived.Test.YtnepapfndihalaaBl
import Derived.Test.YtnepapfndihalaaProg
set_option linter.unusedVariables false
set_option linter.unusedSimpArgs false
set_option linter.unusedSectionVars false
namespace Go.Proofs.Ytnepapfndihalaa
open Go.RowKit
noncomputable abbrev PG : Program := Try.prog
abbrev bt : PV := .lit (.bool true)
abbrev bf : PV := .lit (.bool false)
abbrev nS : PV := .lit (.slice none 0 0)
abbrev e0 : PV := .lit (.string ⟨#[]⟩)
abbrev i0 : PV := .lit (.int .i64 0)
abbrev i1 : PV := .lit (.int .i64 1)
abbrev i2 : PV := .lit (.int .i64 2)
abbrev i3 : PV := .lit (.int .i64 3)
abbrev i4 : PV := .lit (.int .i64 4)
abbrev i5 : PV := .lit (.int .i64 5)
abbrev i6 : PV := .lit (.int .i64 6)
abbrev i7 : PV := .lit (.int .i64 7)
abbrev i8 : PV := .lit (.int .i64 8)
abbrev i9 : PV := .lit (.int .i64 9)
abbrev nL : PV := .lit (.slice none 0 0)
noncomputable def cI (s : List PV) (v : PV) (k : List PV → Res) : Res := consK .fail s fun y r => isK .fail v y (k r)
def cC (s : List PV) (k : PV → List PV → Res) : Res := consK .fail s k
def cN (s : List PV) (k : Res) : Res := nilK .fail s k
noncomputable def cL : List PV → List PV → (List PV → Res) → Res
  | [], s, k => k s
  | v :: vs, s, k => cI s v fun s => cL vs s k
@[simp] theorem cI_cons (y : PV) (r : List PV) (v : PV) (k : List PV → Res) : cI (y :: r) v k = isK .fail v y (k r) := rfl
@[simp] theorem cC_cons (y : PV) (r : List PV) (k : PV → List PV → Res) : cC (y :: r) k = k y r := rfl
@[simp] theorem cI_nil (v : PV) (k : List PV → Res) : cI [] v k = .fail := rfl
@[simp] theorem cC_nil (k : PV → List PV → Res) : cC [] k = .fail := rfl
@[simp] theorem cN_nil (k : Res) : cN [] k = k := rfl
@[simp] theorem cN_cons (y : PV) (r : List PV) (k : Res) : cN (y :: r) k = .fail := rfl
@[simp] theorem cL_nil (s : List PV) (k : List PV → Res) : cL [] s k = k s := rfl
@[simp] theorem cL_cons (v : PV) (vs : List PV) (y : PV) (r : List PV) (k : List PV → Res) : cL (v :: vs) (y :: r) k = isK .fail v y (cL vs r k) := rfl
@[simp] theorem cL_out (v : PV) (vs : List PV) (k : List PV → Res) : cL (v :: vs) [] k = .fail := rfl
@[simp] noncomputable def bI (b : BinOp) (t : TypeId) (u v r : PV) (k : Res) : Res := binK PG .fail b t (.pv u) (.pv v) fun w => pvK .fail w fun y => isK .fail r y k
@[simp] noncomputable def bV (b : BinOp) (t : TypeId) (u v : PV) (k : PV → Res) : Res := binK PG .fail b t (.pv u) (.pv v) fun w => pvK .fail w k
@[simp] noncomputable def lV (t : TypeId) (u : PV) (k : PV → Res) : Res := lenK PG .fail t (.pv u) fun w => pvK .fail w k
@[simp] noncomputable def xV (t : TypeId) (u i : PV) (k : List PV → Res) : Res := idxK PG .fail t (.pv u) (.pv i) fun w => cptrK .fail w k
@[simp] noncomputable def sV (t : TypeId) (u i : PV) (k : PV → Res) : Res := slcK PG .fail t (.pv u) none (some (.pv i)) fun w => pvK .fail w k
@[simp] noncomputable def bA (b : BinOp) (t : TypeId) (u v : PV) (k1 k2 : Res) : Res := Res.alt (bI b t u v (.lit (.bool true)) k1) (bI b t u v (.lit (.bool false)) k2)
@[simp] noncomputable def cA (o : Option Rs) (m n : Nat) (k1 k2 : List PV → Res) : Res := Res.alt (callK o m k1) (callK o n k2)

/-- What a program may be read as. -/
class R (T : Type) where
  U : Type
  TW : BinOp → TypeId → PV → PV → T → T → T
  E3 : PV → PV → T → T → T
  L3 : PV → PV → T → T → T
  N3 : PV → PV → T → T → T
  G3 : PV → PV → T → T → T
  H3 : PV → PV → T → T → T
  K3 : PV → PV → T → T → T
  N9 : PV → PV → T → T → T
  E9 : PV → PV → T → T → T
  A3 : PV → PV → (PV → T) → T
  S3 : PV → PV → (PV → T) → T
  L : TypeId → PV → (PV → T) → T
  S : TypeId → PV → Option AV → Option AV → (PV → T) → T
  P : TypeId → PV → PV → (PV → T) → T
  P0 : TypeId → PV → PV → T → T
  Z : TypeId → PV → AV → AV → (PV → T) → T
  SE : PV → PV → Nat → List PV → (PV → T) → T
  MK : TypeId → PV → (PV → T) → T
  AQ : TypeId → PV → PV → (PV → T) → T
  DE : TypeId → PV → AV → (PV → T) → T
  SU : PV → PV → (PV → T) → T
  WT : TypeId → PV → AV → Bool → PV → U → T
  X : TypeId → PV → PV → U → T
  J : T → T → T
  C : Nat → List PV → Nat → U → T
  C0 : Nat → List PV → U → T
  D : Nat → List PV → Nat → Nat → U → U → T
  Q0 : Nat → List PV → T → T → T
  O : Nat → List PV → T
  O0 : List PV → T
  Y : Nat → List PV → T
  z : T → U
  ms : List PV → U → U
  mz : List PV → T → U
  v1 : (PV → U) → U
  w1 : (PV → T) → U
@[simp ↓] abbrev R.v2 {T : Type} [R T] (k : PV → PV → R.U T) : R.U T := R.v1 fun a => R.v1 (k a)
@[simp ↓] abbrev R.v3 {T : Type} [R T] (k : PV → PV → PV → R.U T) : R.U T := R.v1 fun a => R.v2 (k a)
@[simp ↓] abbrev R.v4 {T : Type} [R T] (k : PV → PV → PV → PV → R.U T) : R.U T := R.v1 fun a => R.v3 (k a)
@[simp ↓] abbrev R.w2 {T : Type} [R T] (k : PV → PV → T) : R.U T := R.v1 fun a => R.w1 (k a)
@[simp ↓] abbrev R.w3 {T : Type} [R T] (k : PV → PV → PV → T) : R.U T := R.v1 fun a => R.w2 (k a)
@[simp ↓] abbrev R.w4 {T : Type} [R T] (k : PV → PV → PV → PV → T) : R.U T := R.v1 fun a => R.w3 (k a)
@[simp ↓] abbrev R.w5 {T : Type} [R T] (k : PV → PV → PV → PV → PV → T) : R.U T := R.v1 fun a => R.w4 (k a)
@[simp ↓] abbrev R.w6 {T : Type} [R T] (k : PV → PV → PV → PV → PV → PV → T) : R.U T := R.v1 fun a => R.w5 (k a)
@[simp ↓] abbrev R.w7 {T : Type} [R T] (k : PV → PV → PV → PV → PV → PV → PV → T) : R.U T := R.v1 fun a => R.w6 (k a)
@[simp ↓] abbrev R.w8 {T : Type} [R T] (k : PV → PV → PV → PV → PV → PV → PV → PV → T) : R.U T := R.v1 fun a => R.w7 (k a)
abbrev Rf : Type := Nat → Et
abbrev Ru : Type := Nat → List PV × Et
abbrev Sm : Type := (Q → Option Rs) → Res
abbrev Su : Type := (Q → Option Rs) → List PV → Res
instance : R Rf where
  U := Ru
  TW := fun b t u v x y n => .alt (.say (.bin b t (.pv u) (.pv v) (.pv bt)) (x n)) (.say (.bin b t (.pv u) (.pv v) (.pv bf)) (y n))
  E3 := fun u v x y n => .alt (.say (.bin .eql 3 (.pv u) (.pv v) (.pv bt)) (x n)) (.say (.bin .eql 3 (.pv u) (.pv v) (.pv bf)) (y n))
  L3 := fun u v x y n => .alt (.say (.bin .lss 3 (.pv u) (.pv v) (.pv bt)) (x n)) (.say (.bin .lss 3 (.pv u) (.pv v) (.pv bf)) (y n))
  N3 := fun u v x y n => .alt (.say (.bin .neq 3 (.pv u) (.pv v) (.pv bt)) (x n)) (.say (.bin .neq 3 (.pv u) (.pv v) (.pv bf)) (y n))
  G3 := fun u v x y n => .alt (.say (.bin .gtr 3 (.pv u) (.pv v) (.pv bt)) (x n)) (.say (.bin .gtr 3 (.pv u) (.pv v) (.pv bf)) (y n))
  H3 := fun u v x y n => .alt (.say (.bin .geq 3 (.pv u) (.pv v) (.pv bt)) (x n)) (.say (.bin .geq 3 (.pv u) (.pv v) (.pv bf)) (y n))
  K3 := fun u v x y n => .alt (.say (.bin .leq 3 (.pv u) (.pv v) (.pv bt)) (x n)) (.say (.bin .leq 3 (.pv u) (.pv v) (.pv bf)) (y n))
  N9 := fun u v x y n => .alt (.say (.bin .neq 9 (.pv u) (.pv v) (.pv bt)) (x n)) (.say (.bin .neq 9 (.pv u) (.pv v) (.pv bf)) (y n))
  E9 := fun u v x y n => .alt (.say (.bin .eql 9 (.pv u) (.pv v) (.pv bt)) (x n)) (.say (.bin .eql 9 (.pv u) (.pv v) (.pv bf)) (y n))
  A3 := fun u v k n => .say (.bin .add 3 (.pv u) (.pv v) (.pv (.sym n))) (k (.sym n) (n + 1))
  S3 := fun u v k n => .say (.bin .sub 3 (.pv u) (.pv v) (.pv (.sym n))) (k (.sym n) (n + 1))
  L := fun t u k n => .say (.len t (.pv u) (.pv (.sym n))) (k (.sym n) (n + 1))
  S := fun t u a b k n => .say (.slc t (.pv u) a b (.pv (.sym n))) (k (.sym n) (n + 1))
  P := fun t u x k n => .say (.app t (.pv u) (.pv x) n) (k (.sym n) (n + 1))
  P0 := fun t u x y n => .say (.app0 t (.pv u) (.pv x)) (y n)
  Z := fun t u a v k n => .say (.upd t u a v n) (k (.sym n) (n + 1))
  SE := fun p i o c k n => .say (.set p i o c n) (k (.sym n) (n + 1))
  MK := fun t u k n => .say (.mk t (.pv u) n) (k (.sym n) (n + 1))
  AQ := fun t u x k n => .say (.apq t (.pv u) (.pv x) n) (k (.sym n) (n + 1))
  DE := fun t p a k n => .say (.del t p a n) (k (.sym n) (n + 1))
  SU := fun a b k n => .say (.sum a b n) (k (.sym n) (n + 1))
  WT := fun t u a b q k n => .say (.look t u a (.tup [.agg ((k n).1.map .pv), .pv q]) b) (k n).2
  X := fun t u i k n => .say (.idx t (.pv u) (.pv i) (.cptr (k n).1)) (k n).2
  J := fun x y n => .alt (x n) (y n)
  C := fun q p s k n => .call q p s (k n).1 (k n).2
  C0 := fun q p k n => .call q p 0 (k n).1 (k n).2
  D := fun q p s t k l n => .alt (.call q p s (k n).1 (k n).2) (.call q p t (l n).1 (l n).2)
  Q0 := fun q p x y n => .alt (.call q p 0 [bt] (x n)) (.call q p 0 [bf] (y n))
  O := fun s p n => .out s p
  O0 := fun p n => .out 0 p
  Y := fun q p n => .goto q p
  z := fun x n => ([], x n)
  ms := fun p k n => (p ++ (k n).1, (k n).2)
  mz := fun p x n => (p, x n)
  v1 := fun k n => ([.sym n] ++ (k (.sym n) (n + 1)).1, (k (.sym n) (n + 1)).2)
  w1 := fun k n => ([.sym n], k (.sym n) (n + 1))
noncomputable instance : R Sm where
  U := Su
  TW := fun b t u v x y O => bA b t u v (x O) (y O)
  E3 := fun u v x y O => bA .eql 3 u v (x O) (y O)
  L3 := fun u v x y O => bA .lss 3 u v (x O) (y O)
  N3 := fun u v x y O => bA .neq 3 u v (x O) (y O)
  G3 := fun u v x y O => bA .gtr 3 u v (x O) (y O)
  H3 := fun u v x y O => bA .geq 3 u v (x O) (y O)
  K3 := fun u v x y O => bA .leq 3 u v (x O) (y O)
  N9 := fun u v x y O => bA .neq 9 u v (x O) (y O)
  E9 := fun u v x y O => bA .eql 9 u v (x O) (y O)
  A3 := fun u v k O => bV .add 3 u v fun y => k y O
  S3 := fun u v k O => bV .sub 3 u v fun y => k y O
  L := fun t u k O => lV t u fun y => k y O
  S := fun t u a b k O => slcK PG .fail t (.pv u) a b fun w => pvK .fail w fun y => k y O
  P := fun t u x k O => appK PG .fail t (.pv u) (.pv x) fun y => k y O
  P0 := fun t u x y O => app0K PG .fail t (.pv u) (.pv x) (y O)
  Z := fun t u a v k O => updK PG .fail t u a v fun y => k y O
  SE := fun p i o c k O => setK .fail p i o c fun y => k y O
  MK := fun t u k O => mkK PG .fail t (.pv u) fun y => k y O
  AQ := fun t u x k O => appK PG .fail t (.pv u) (.pv x) fun y => k y O
  DE := fun t p a k O => delK PG .fail t p a fun y => k y O
  SU := fun a b k O => sumK .fail a b fun y => k y O
  WT := fun t u a b q k O => lookK PG .fail t u a b fun w => paggK .fail w fun ys z => isK .fail q z (k O ys)
  X := fun t u i k O => xV t u i fun s => k O s
  J := fun x y O => Res.alt (x O) (y O)
  C := fun q p s k O => callK (O ⟨q, p⟩) s fun s => k O s
  C0 := fun q p k O => callK (O ⟨q, p⟩) 0 fun s => k O s
  D := fun q p s t k l O => cA (O ⟨q, p⟩) s t (fun s => k O s) fun s => l O s
  Q0 := fun q p x y O => cA (O ⟨q, p⟩) 0 0 (fun s => cI s bt fun s => cN s (x O)) fun s => cI s bf fun s => cN s (y O)
  O := fun s p O => .ok (s, p)
  O0 := fun p O => .ok (0, p)
  Y := fun q p O => passK (O ⟨q, p⟩)
  z := fun x O s => cN s (x O)
  ms := fun p k O s => cL p s (k O)
  mz := fun p x O s => cL p s fun s => cN s (x O)
  v1 := fun k O s => cC s fun av s => k av O s
  w1 := fun k O s => cC s fun av s => cN s (k av O)
@[simp ↓] theorem m_TW {b : BinOp} {t : TypeId} {u v : PV} {x y : Sm} {O} : R.TW (T := Sm) b t u v x y O = bA b t u v (x O) (y O) := rfl
@[simp ↓] theorem m_E3 {u v : PV} {x y : Sm} {O} : R.E3 (T := Sm) u v x y O = bA .eql 3 u v (x O) (y O) := rfl
@[simp ↓] theorem m_L3 {u v : PV} {x y : Sm} {O} : R.L3 (T := Sm) u v x y O = bA .lss 3 u v (x O) (y O) := rfl
@[simp ↓] theorem m_N3 {u v : PV} {x y : Sm} {O} : R.N3 (T := Sm) u v x y O = bA .neq 3 u v (x O) (y O) := rfl
@[simp ↓] theorem m_G3 {u v : PV} {x y : Sm} {O} : R.G3 (T := Sm) u v x y O = bA .gtr 3 u v (x O) (y O) := rfl
@[simp ↓] theorem m_H3 {u v : PV} {x y : Sm} {O} : R.H3 (T := Sm) u v x y O = bA .geq 3 u v (x O) (y O) := rfl
@[simp ↓] theorem m_K3 {u v : PV} {x y : Sm} {O} : R.K3 (T := Sm) u v x y O = bA .leq 3 u v (x O) (y O) := rfl
@[simp ↓] theorem m_N9 {u v : PV} {x y : Sm} {O} : R.N9 (T := Sm) u v x y O = bA .neq 9 u v (x O) (y O) := rfl
@[simp ↓] theorem m_E9 {u v : PV} {x y : Sm} {O} : R.E9 (T := Sm) u v x y O = bA .eql 9 u v (x O) (y O) := rfl
@[simp ↓] theorem m_A3 {u v : PV} {k : PV → Sm} {O} : R.A3 (T := Sm) u v k O = bV .add 3 u v fun y => k y O := rfl
@[simp ↓] theorem m_S3 {u v : PV} {k : PV → Sm} {O} : R.S3 (T := Sm) u v k O = bV .sub 3 u v fun y => k y O := rfl
@[simp ↓] theorem m_L {t : TypeId} {u : PV} {k : PV → Sm} {O} : R.L (T := Sm) t u k O = lV t u fun y => k y O := rfl
@[simp ↓] theorem m_S {t : TypeId} {u : PV} {a b : Option AV} {k : PV → Sm} {O} : R.S (T := Sm) t u a b k O = slcK PG .fail t (.pv u) a b fun w => pvK .fail w fun y => k y O := rfl
@[simp ↓] theorem m_P {t : TypeId} {u x : PV} {k : PV → Sm} {O} : R.P (T := Sm) t u x k O = appK PG .fail t (.pv u) (.pv x) fun y => k y O := rfl
@[simp ↓] theorem m_P0 {t : TypeId} {u x : PV} {y : Sm} {O} : R.P0 (T := Sm) t u x y O = app0K PG .fail t (.pv u) (.pv x) (y O) := rfl
@[simp ↓] theorem m_Z {t : TypeId} {u : PV} {a v : AV} {k : PV → Sm} {O} : R.Z (T := Sm) t u a v k O = updK PG .fail t u a v fun y => k y O := rfl
@[simp ↓] theorem m_SE {p i : PV} {o : Nat} {c : List PV} {k : PV → Sm} {O} : R.SE (T := Sm) p i o c k O = setK .fail p i o c fun y => k y O := rfl
@[simp ↓] theorem m_MK {t : TypeId} {u : PV} {k : PV → Sm} {O} : R.MK (T := Sm) t u k O = mkK PG .fail t (.pv u) fun y => k y O := rfl
@[simp ↓] theorem m_AQ {t : TypeId} {u x : PV} {k : PV → Sm} {O} : R.AQ (T := Sm) t u x k O = appK PG .fail t (.pv u) (.pv x) fun y => k y O := rfl
@[simp ↓] theorem m_DE {t : TypeId} {p : PV} {a : AV} {k : PV → Sm} {O} : R.DE (T := Sm) t p a k O = delK PG .fail t p a fun y => k y O := rfl
@[simp ↓] theorem m_SU {a b : PV} {k : PV → Sm} {O} : R.SU (T := Sm) a b k O = sumK .fail a b fun y => k y O := rfl
@[simp ↓] theorem m_WT {t : TypeId} {u : PV} {a : AV} {b : Bool} {q : PV} {k : Su} {O} : R.WT (T := Sm) t u a b q k O = lookK PG .fail t u a b fun w => paggK .fail w fun ys z => isK .fail q z (k O ys) := rfl
@[simp ↓] theorem m_X {t : TypeId} {u i : PV} {k : Su} {O} : R.X (T := Sm) t u i k O = xV t u i fun s => k O s := rfl
@[simp ↓] theorem m_J {x y : Sm} {O} : R.J (T := Sm) x y O = Res.alt (x O) (y O) := rfl
@[simp ↓] theorem m_C {q : Nat} {p : List PV} {s : Nat} {k : Su} {O} : R.C (T := Sm) q p s k O = callK (O ⟨q, p⟩) s fun s => k O s := rfl
@[simp ↓] theorem m_C0 {q : Nat} {p : List PV} {k : Su} {O} : R.C0 (T := Sm) q p k O = callK (O ⟨q, p⟩) 0 fun s => k O s := rfl
@[simp ↓] theorem m_D {q : Nat} {p : List PV} {s t : Nat} {k l : Su} {O} : R.D (T := Sm) q p s t k l O = cA (O ⟨q, p⟩) s t (fun s => k O s) fun s => l O s := rfl
@[simp ↓] theorem m_Q0 {q : Nat} {p : List PV} {x y : Sm} {O} : R.Q0 (T := Sm) q p x y O = cA (O ⟨q, p⟩) 0 0 (fun s => cI s bt fun s => cN s (x O)) fun s => cI s bf fun s => cN s (y O) := rfl
@[simp ↓] theorem m_O {s : Nat} {p : List PV} {O} : R.O (T := Sm) s p O = .ok (s, p) := rfl
@[simp ↓] theorem m_O0 {p : List PV} {O} : R.O0 (T := Sm) p O = .ok (0, p) := rfl
@[simp ↓] theorem m_Y {q : Nat} {p : List PV} {O} : R.Y (T := Sm) q p O = passK (O ⟨q, p⟩) := rfl
@[simp ↓] theorem m_z {x : Sm} {O} {s : List PV} : R.z (T := Sm) x O s = cN s (x O) := rfl
@[simp ↓] theorem m_ms {p : List PV} {k : Su} {O} {s : List PV} : R.ms (T := Sm) p k O s = cL p s (k O) := rfl
@[simp ↓] theorem m_mz {p : List PV} {x : Sm} {O} {s : List PV} : R.mz (T := Sm) p x O s = cL p s fun s => cN s (x O) := rfl
@[simp ↓] theorem m_v1 {k : PV → Su} {O} {s : List PV} : R.v1 (T := Sm) k O s = cC s fun av s => k av O s := rfl
@[simp ↓] theorem m_w1 {k : PV → Sm} {O} {s : List PV} : R.w1 (T := Sm) k O s = cC s fun av s => cN s (k av O) := rfl
section
open R
variable {T : Type} [R T]
def g3 (a b : PV) : T := Q0 75 [] (Q0 4 [a] (L3 b i0 (O0 [bt]) (L 22 a fun c=>G3 b c (O0 [bt]) (D 1 [i0,c,a,a,b] 0 1 (mz [a,nS,b] (C0 80 [a] (w3 fun d e f=>C0 80 [(.rows [])] (w3 fun g h i=>TW .eql 31 f i3 (O0 [bt]) (TW .eql 31 i i3 (O0 [bt]) (TW .eql 31 f i0 (TW .eql 31 i i0 (N3 e h (O0 [bf]) (L 30 d fun j=>L 30 g fun k=>N3 j k (O0 [bf]) (J (C 3 [i0,j,d,g,a,b,f] 1 (mz [a,b,f] (S 22 a none (some (.pv b)) fun l=>C0 80 [l] (w3 fun m n o=>TW .neq 31 f i0 (O0 [bt]) (TW .eql 31 o i0 (O0 [bt]) (TW .eql 31 o i3 (O0 [bt]) (O0 [bf]))))))) (Q0 3 [i0,j,d,g,a,b,f] (O0 [bt]) (O0 [bf]))))) (O0 [bf])) (TW .eql 31 i i0 (O0 [bf]) (N3 e h (O0 [bf]) (L 30 d fun j=>L 30 g fun k=>N3 j k (O0 [bf]) (J (C 3 [i0,j,d,g,a,b,f] 1 (mz [a,b,f] (S 22 a none (some (.pv b)) fun l=>C0 80 [l] (w3 fun m n o=>TW .neq 31 f i0 (O0 [bt]) (TW .eql 31 o i0 (O0 [bt]) (TW .eql 31 o i3 (O0 [bt]) (O0 [bf]))))))) (Q0 3 [i0,j,d,g,a,b,f] (O0 [bt]) (O0 [bf])))))))))))) (ms [a] (v1 fun d=>mz [b] (C0 80 [a] (w3 fun e f g=>C0 80 [d] (w3 fun h i j=>TW .eql 31 g i3 (O0 [bt]) (TW .eql 31 j i3 (O0 [bt]) (TW .eql 31 g i0 (TW .eql 31 j i0 (N3 f i (O0 [bf]) (L 30 e fun k=>L 30 h fun l=>N3 k l (O0 [bf]) (J (C 3 [i0,k,e,h,a,b,g] 1 (mz [a,b,g] (S 22 a none (some (.pv b)) fun m=>C0 80 [m] (w3 fun n o p=>TW .neq 31 g i0 (O0 [bt]) (TW .eql 31 p i0 (O0 [bt]) (TW .eql 31 p i3 (O0 [bt]) (O0 [bf]))))))) (Q0 3 [i0,k,e,h,a,b,g] (O0 [bt]) (O0 [bf]))))) (O0 [bf])) (TW .eql 31 j i0 (O0 [bf]) (N3 f i (O0 [bf]) (L 30 e fun k=>L 30 h fun l=>N3 k l (O0 [bf]) (J (C 3 [i0,k,e,h,a,b,g] 1 (mz [a,b,g] (S 22 a none (some (.pv b)) fun m=>C0 80 [m] (w3 fun n o p=>TW .neq 31 g i0 (O0 [bt]) (TW .eql 31 p i0 (O0 [bt]) (TW .eql 31 p i3 (O0 [bt]) (O0 [bf]))))))) (Q0 3 [i0,k,e,h,a,b,g] (O0 [bt]) (O0 [bf])))))))))))))))) (O0 [bt])) (O0 [bf])
def g3b0a (a b c d e : PV) : T := L3 a b (X 22 c a (w8 fun f g h i j k l m=>A3 a i1 fun n=>Y 2 [n,b,c,(.rows [[j,k,l,m,f,g,h,i]]),d,e])) (O0 [d,nS,e])
def g3b0b (a b c d e f : PV) : T := L3 a b (X 22 c a (w8 fun g h i j k l m n=>P 22 d (.rows [[k,l,m,n,g,h,i,j]]) fun o=>A3 a i1 fun p=>Y 2 [p,b,c,o,e,f])) (O 1 [e,d,f])
def g3b2a (a b c d e f g : PV) : T := L3 a b (X 30 c a (w5 fun h i j k l=>X 30 d a (w5 fun m n o p q=>N3 h m (O0 [bf]) (Q0 12 [i,j,k,l,n,o,p,q] (A3 a i1 fun r=>Y 3 [r,b,c,d,e,f,g]) (O0 [bf]))))) (O 1 [e,f,g])
def g6 (a : PV) : T := L 22 a fun b=>J (C 5 [i0,b,a,a] 1 (mz [a] (K3 b (iv 12) (O0 [bt]) (O0 [bf])))) (Q0 5 [i0,b,a,a] (O0 [bt]) (O0 [bf]))
def g6b0a (a b c d : PV) : T := L3 a b (X 22 c a (w8 fun e f g h i j k l=>Q0 6 [e,f,g,h] (Q0 6 [i,j,k,l] (Q0 8 [e,f,g,h,(iv 40)] (Q0 8 [i,j,k,l,(iv 40)] (A3 a i1 fun m=>Y 5 [m,b,c,d]) (O0 [bf])) (O0 [bf])) (O0 [bf])) (O0 [bf]))) (O 1 [d])
def g20 (a b c d : PV) : T := E3 a i2 (L 25 d fun e=>G3 e i0 (O0 [bf]) (N9 b e0 (O0 [bf]) (J (C 7 [i0,e,d] 1 (z (O0 [bt]))) (Q0 7 [i0,e,d] (O0 [bt]) (O0 [bf]))))) (L 25 d fun e=>J (C 7 [i0,e,d] 1 (z (O0 [bt]))) (Q0 7 [i0,e,d] (O0 [bt]) (O0 [bf])))
def g20b0a (a b c : PV) : T := L3 a b (X 25 c a (w4 fun d e f g=>Q0 6 [d,e,f,g] (A3 a i1 fun h=>Y 7 [h,b,c]) (O0 [bf]))) (O 1 [])
def g21 (a b c d e : PV) : T := A3 e i1 fun f=>C0 9 [a,b,c,d,f] (w1 fun g=>K3 g e (O0 [bt]) (O0 [bf]))
def g33 (a b c d e : PV) : T := E3 a i1 (L 25 d fun f=>G3 f i0 (O0 [e]) (N3 c i0 (O0 [e]) (C0 10 [i0,i1,e,a,b,c,d] (ms [a,b,c,d] (w1 fun g=>O0 [g]))))) (C0 10 [i0,i1,e,a,b,c,d] (ms [a,b,c,d] (w1 fun f=>O0 [f])))
def g33b0a (a b c d e f g : PV) : T := L 25 g fun h=>L3 a h (L3 b c (X 25 g a (w4 fun i j k l=>S3 c b fun m=>C0 9 [i,j,k,l,m] (w1 fun n=>A3 b n fun o=>A3 a i1 fun p=>Y 10 [p,o,c,d,e,f,g]))) (O0 [d,e,f,g,b])) (O0 [d,e,f,g,b])
def g22 (a b c d : PV) : T := D 18 [a,b,c,d] 0 1 (mz [nS] (O0 [nS])) (w1 fun e=>O 1 [e])
def g8 (a b c d e f g h : PV) : T := E3 a e (E9 b f (E3 c g (Q0 13 [d,h] (O0 [bt]) (O0 [bf])) (O0 [bf])) (O0 [bf])) (O0 [bf])
def g25 (a b : PV) : T := L 25 a fun c=>L 25 b fun d=>N3 c d (O0 [bf]) (J (C 14 [i0,a,b] 1 (z (O0 [bt]))) (Q0 14 [i0,a,b] (O0 [bt]) (O0 [bf])))
def g25b0a (a b c : PV) : T := L 25 b fun d=>L3 a d (X 25 b a (w4 fun e f g h=>X 25 c a (w4 fun i j k l=>Q0 12 [e,f,g,h,i,j,k,l] (A3 a i1 fun m=>Y 14 [m,b,c]) (O0 [bf])))) (O 1 [])
def g36 (a b : PV) : T := C0 16 [a,b] (w1 fun c=>H3 c i0 (O0 [bt]) (O0 [bf]))
def g45 (a b : PV) : T := L 55 a fun c=>D 17 [i0,c,b,a] 1 0 (z (O0 [(iv (-1))])) (w1 fun d=>O0 [d])
def g45b0a (a b c d : PV) : T := L3 a b (X 55 d a (w1 fun e=>E3 c e (O0 [a]) (A3 a i1 fun f=>Y 17 [f,b,c,d]))) (O 1 [])
def g34a (a b c d : PV) : T := D 23 [a,b,c,d] 0 1 (mz [nS] (L 25 d fun e=>D 19 [i0,e,d] 0 1 (mz [nS] (O0 [nS])) (w1 fun f=>O 1 [f]))) (w1 fun e=>L 25 d fun f=>D 20 [i0,f,d,e] 0 1 (mz [e] (O 1 [e])) (w1 fun g=>O 1 [g]))
def g34ab0a (a b c : PV) : T := L3 a b (X 25 c a (w4 fun d e f g=>D 18 [d,e,f,g] 0 1 (mz [nS] (A3 a i1 fun h=>Y 19 [h,b,c])) (w1 fun h=>A3 a i1 fun i=>Y 21 [i,b,c,h]))) (O0 [nS])
def g34ab0b (a b c d : PV) : T := L3 a b (X 25 c a (w4 fun e f g h=>D 24 [e,f,g,h,d] 0 1 (mz [d] (A3 a i1 fun i=>Y 20 [i,b,c,d])) (w1 fun i=>A3 a i1 fun j=>Y 22 [j,b,c,i]))) (O0 [d])
def g34ab0c (a b c d : PV) : T := L3 a b (X 25 c a (w4 fun e f g h=>D 24 [e,f,g,h,d] 0 1 (mz [d] (A3 a i1 fun i=>Y 21 [i,b,c,d])) (w1 fun i=>A3 a i1 fun j=>Y 21 [j,b,c,i]))) (O 1 [d])
def g34ab0d (a b c d : PV) : T := L3 a b (X 25 c a (w4 fun e f g h=>D 24 [e,f,g,h,d] 0 1 (mz [d] (A3 a i1 fun i=>Y 22 [i,b,c,d])) (w1 fun i=>A3 a i1 fun j=>Y 22 [j,b,c,i]))) (O 1 [d])
def g35a (a b c d : PV) : T := E3 a i2 (Q0 15 [(.rows []),c] (O0 [nS]) (O 1 [(.rows [[c]])])) (O0 [nS])
def g34b (a b c d e : PV) : T := D 27 [a,b,c,d,e] 0 1 (mz [e] (L 25 d fun f=>D 20 [i0,f,d,e] 0 1 (mz [e] (O0 [e])) (w1 fun g=>O 1 [g]))) (w1 fun f=>L 25 d fun g=>D 20 [i0,g,d,f] 0 1 (mz [f] (O 1 [f])) (w1 fun h=>O 1 [h]))
def g34bb0a (a b c d : PV) : T := L3 a b (X 25 c a (w4 fun e f g h=>D 24 [e,f,g,h,d] 0 1 (mz [d] (A3 a i1 fun i=>Y 20 [i,b,c,d])) (w1 fun i=>A3 a i1 fun j=>Y 22 [j,b,c,i]))) (O0 [d])
def g34bb0b (a b c d : PV) : T := L3 a b (X 25 c a (w4 fun e f g h=>D 24 [e,f,g,h,d] 0 1 (mz [d] (A3 a i1 fun i=>Y 22 [i,b,c,d])) (w1 fun i=>A3 a i1 fun j=>Y 22 [j,b,c,i]))) (O 1 [d])
def g35b (a b c d e : PV) : T := E3 a i2 (Q0 15 [e,c] (O0 [e]) (P 55 e (.rows [[c]]) fun f=>O 1 [f])) (O0 [e])
def g7 (a : PV) : T := C0 37 [] (mz [nS,i0,i0,(.rows [])] (L 22 a fun b=>J (J (D 29 [i0,b,a,i0,(.rows [])] 2 3 (ms [nS,i0] (v2 fun c d=>mz [nS] (C0 76 [(.rows [])] (z (C0 78 [(.rows [])] (w1 fun e=>L 55 e fun f=>J (D 33 [i0,f,e,c,d] 1 2 (ms [nS,i0] (v1 fun g=>mz [d,nS] (O0 [nS,i0,i0]))) (ms [nS,i0] (v1 fun g=>ms [d] (w1 fun h=>O 1 [h,i0,i0])))) (C0 33 [i0,f,e,c,d] (ms [nS,i0] (v1 fun g=>ms [d] (w3 fun h i j=>O0 [h,i,j])))))))))) (ms [nS,i0] (w3 fun c d e=>C0 77 [e] (w1 fun f=>C0 79 [f] (w1 fun g=>L 55 g fun h=>J (D 33 [i0,h,g,c,d] 1 2 (ms [nS,i0] (v1 fun i=>mz [d,nS] (O0 [nS,i0,i0]))) (ms [nS,i0] (v1 fun i=>ms [d] (w1 fun j=>O 1 [j,i0,i0])))) (C0 33 [i0,h,g,c,d] (ms [nS,i0] (v1 fun i=>ms [d] (w3 fun j k l=>O0 [j,k,l]))))))))) (D 29 [i0,b,a,i0,(.rows [])] 5 4 (ms [i0] (v3 fun c d e=>mz [nS] (C0 76 [(.rows [])] (z (C0 78 [(.rows [])] (w1 fun f=>L 55 f fun g=>J (D 34 [i0,g,f,c,d,e] 1 2 (ms [i0] (v1 fun h=>ms [d] (v1 fun i=>mz [nS] (O0 [nS,i0,i0])))) (ms [i0] (v1 fun h=>ms [d] (w2 fun i j=>O 1 [j,i0,i0])))) (C0 34 [i0,g,f,c,d,e] (ms [i0] (v1 fun h=>ms [d] (w4 fun i j k l=>O0 [j,k,l])))))))))) (ms [i0] (w4 fun c d e f=>C0 77 [f] (w1 fun g=>C0 79 [g] (w1 fun h=>L 55 h fun i=>J (D 34 [i0,i,h,c,d,e] 1 2 (ms [i0] (v1 fun j=>ms [d] (v1 fun k=>mz [nS] (O0 [nS,i0,i0])))) (ms [i0] (v1 fun j=>ms [d] (w2 fun k l=>O 1 [l,i0,i0])))) (C0 34 [i0,i,h,c,d,e] (ms [i0] (v1 fun j=>ms [d] (w4 fun k l m n=>O0 [l,m,n])))))))))) (D 29 [i0,b,a,i0,(.rows [])] 0 1 (ms [nS,i0] (w5 fun c d e f g=>O0 [e,f,g])) (ms [i0] (w6 fun c d e f g h=>O0 [f,g,h])))))
def g7b0a (a b c d e : PV) : T := L3 a b (X 22 c a (w8 fun f g h i j k l m=>D 38 [f,g,h,i,j,k,l,m,i0,d,e] 0 1 (ms [nS,i0] (w3 fun n o p=>TW .neq 31 p i0 (O0 [nS,i0,n,o,nS,a,p]) (C0 81 [f,g,h,i] (w1 fun q=>J (AQ 55 nS q fun r=>C0 81 [j,k,l,m] (w1 fun s=>J (AQ 55 r s fun t=>A3 a i1 fun u=>Y 30 [u,b,c,n,o,t]) (P0 55 r s (A3 a i1 fun t=>Y 30 [t,b,c,n,o,r])))) (P0 55 nS q (C0 81 [j,k,l,m] (w1 fun r=>J (AQ 55 nS r fun s=>A3 a i1 fun t=>Y 30 [t,b,c,n,o,s]) (P0 55 nS r (A3 a i1 fun s=>Y 29 [s,b,c,n,o]))))))))) (ms [i0] (w4 fun n o p q=>TW .neq 31 q i0 (O 1 [i0,n,o,p,nS,a,q]) (C0 81 [f,g,h,i] (w1 fun r=>J (AQ 55 nS r fun s=>C0 81 [j,k,l,m] (w1 fun t=>J (AQ 55 s t fun u=>A3 a i1 fun v=>Y 31 [v,b,c,n,o,p,u]) (P0 55 s t (A3 a i1 fun u=>Y 31 [u,b,c,n,o,p,s])))) (P0 55 nS r (C0 81 [j,k,l,m] (w1 fun s=>J (AQ 55 nS s fun t=>A3 a i1 fun u=>Y 31 [u,b,c,n,o,p,t]) (P0 55 nS s (A3 a i1 fun t=>Y 32 [t,b,c,n,o,p]))))))))))) (O 2 [nS,i0,d,e,nS])
def g7b0b (a b c d e f : PV) : T := L3 a b (X 22 c a (w8 fun g h i j k l m n=>D 38 [g,h,i,j,k,l,m,n,i0,d,e] 0 1 (ms [nS,i0] (w3 fun o p q=>TW .neq 31 q i0 (O0 [nS,i0,o,p,nS,a,q]) (C0 81 [g,h,i,j] (w1 fun r=>J (AQ 55 f r fun s=>C0 81 [k,l,m,n] (w1 fun t=>J (AQ 55 s t fun u=>A3 a i1 fun v=>Y 30 [v,b,c,o,p,u]) (P0 55 s t (A3 a i1 fun u=>Y 30 [u,b,c,o,p,s])))) (P0 55 f r (C0 81 [k,l,m,n] (w1 fun s=>J (AQ 55 f s fun t=>A3 a i1 fun u=>Y 30 [u,b,c,o,p,t]) (P0 55 f s (A3 a i1 fun t=>Y 30 [t,b,c,o,p,f]))))))))) (ms [i0] (w4 fun o p q r=>TW .neq 31 r i0 (O 1 [i0,o,p,q,nS,a,r]) (C0 81 [g,h,i,j] (w1 fun s=>J (AQ 55 f s fun t=>C0 81 [k,l,m,n] (w1 fun u=>J (AQ 55 t u fun v=>A3 a i1 fun w=>Y 31 [w,b,c,o,p,q,v]) (P0 55 t u (A3 a i1 fun v=>Y 31 [v,b,c,o,p,q,t])))) (P0 55 f s (C0 81 [k,l,m,n] (w1 fun t=>J (AQ 55 f t fun u=>A3 a i1 fun v=>Y 31 [v,b,c,o,p,q,u]) (P0 55 f t (A3 a i1 fun u=>Y 31 [u,b,c,o,p,q,f]))))))))))) (O 3 [nS,i0,d,e,f])
def g7b0c (a b c d e f g : PV) : T := L3 a b (X 22 c a (w8 fun h i j k l m n o=>D 41 [h,i,j,k,l,m,n,o,i0,d,e,f] 0 1 (ms [i0] (v2 fun p q=>ms [f] (w1 fun r=>TW .neq 31 r i0 (O 1 [i0,p,q,f,nS,a,r]) (C0 81 [h,i,j,k] (w1 fun s=>J (AQ 55 g s fun t=>C0 81 [l,m,n,o] (w1 fun u=>J (AQ 55 t u fun v=>A3 a i1 fun w=>Y 31 [w,b,c,p,q,f,v]) (P0 55 t u (A3 a i1 fun v=>Y 31 [v,b,c,p,q,f,t])))) (P0 55 g s (C0 81 [l,m,n,o] (w1 fun t=>J (AQ 55 g t fun u=>A3 a i1 fun v=>Y 31 [v,b,c,p,q,f,u]) (P0 55 g t (A3 a i1 fun u=>Y 31 [u,b,c,p,q,f,g])))))))))) (ms [i0] (w4 fun p q r s=>TW .neq 31 s i0 (O 1 [i0,p,q,r,nS,a,s]) (C0 81 [h,i,j,k] (w1 fun t=>J (AQ 55 g t fun u=>C0 81 [l,m,n,o] (w1 fun v=>J (AQ 55 u v fun w=>A3 a i1 fun x=>Y 31 [x,b,c,p,q,r,w]) (P0 55 u v (A3 a i1 fun w=>Y 31 [w,b,c,p,q,r,u])))) (P0 55 g t (C0 81 [l,m,n,o] (w1 fun u=>J (AQ 55 g u fun v=>A3 a i1 fun w=>Y 31 [w,b,c,p,q,r,v]) (P0 55 g u (A3 a i1 fun v=>Y 31 [v,b,c,p,q,r,g]))))))))))) (O 4 [i0,d,e,f,g])
def g7b0d (a b c d e f : PV) : T := L3 a b (X 22 c a (w8 fun g h i j k l m n=>D 41 [g,h,i,j,k,l,m,n,i0,d,e,f] 0 1 (ms [i0] (v2 fun o p=>ms [f] (w1 fun q=>TW .neq 31 q i0 (O 1 [i0,o,p,f,nS,a,q]) (C0 81 [g,h,i,j] (w1 fun r=>J (AQ 55 nS r fun s=>C0 81 [k,l,m,n] (w1 fun t=>J (AQ 55 s t fun u=>A3 a i1 fun v=>Y 31 [v,b,c,o,p,f,u]) (P0 55 s t (A3 a i1 fun u=>Y 31 [u,b,c,o,p,f,s])))) (P0 55 nS r (C0 81 [k,l,m,n] (w1 fun s=>J (AQ 55 nS s fun t=>A3 a i1 fun u=>Y 31 [u,b,c,o,p,f,t]) (P0 55 nS s (A3 a i1 fun t=>Y 32 [t,b,c,o,p,f])))))))))) (ms [i0] (w4 fun o p q r=>TW .neq 31 r i0 (O 1 [i0,o,p,q,nS,a,r]) (C0 81 [g,h,i,j] (w1 fun s=>J (AQ 55 nS s fun t=>C0 81 [k,l,m,n] (w1 fun u=>J (AQ 55 t u fun v=>A3 a i1 fun w=>Y 31 [w,b,c,o,p,q,v]) (P0 55 t u (A3 a i1 fun v=>Y 31 [v,b,c,o,p,q,t])))) (P0 55 nS s (C0 81 [k,l,m,n] (w1 fun t=>J (AQ 55 nS t fun u=>A3 a i1 fun v=>Y 31 [v,b,c,o,p,q,u]) (P0 55 nS t (A3 a i1 fun u=>Y 32 [u,b,c,o,p,q]))))))))))) (O 5 [i0,d,e,f,nS])
def g7b2a (a b c d e : PV) : T := L3 a b (X 55 c a (w1 fun f=>J (WT 60 e (.pv f) true bt (w4 fun g h i j=>C0 43 [i2,e0,f,(.rows []),i0,d,e] (ms [nS,i0] (v1 fun k=>ms [e] (w5 fun l m n o p=>TW .neq 31 p i0 (O0 [nS,i0,k,e,nS,i0,p]) (A3 a i1 fun q=>Y 35 [q,b,c,(.rows [[f,l,m,n,o]]),k,e])))))) (WT 60 e (.pv f) true bf (w4 fun g h i j=>A3 a i1 fun k=>Y 33 [k,b,c,d,e])))) (O 1 [nS,i0,d,e,nS])
def g7b2b (a b c d e f : PV) : T := L3 a b (X 55 c a (w1 fun g=>J (WT 60 e (.pv g) true bt (w4 fun h i j k=>C0 44 [i2,e0,g,(.rows []),i0,d,e,f] (ms [i0] (v1 fun l=>ms [e] (w6 fun m n o p q r=>TW .neq 31 r i0 (O0 [i0,l,e,m,nS,i0,r]) (A3 a i1 fun s=>Y 36 [s,b,c,(.rows [[g,n,o,p,q]]),l,e,m])))))) (WT 60 e (.pv g) true bf (w4 fun h i j k=>A3 a i1 fun l=>Y 34 [l,b,c,d,e,f])))) (O 1 [i0,d,e,f,nS])
def g7b2c (a b c d e f : PV) : T := L3 a b (X 55 c a (w1 fun g=>J (WT 60 f (.pv g) true bt (w4 fun h i j k=>C0 43 [i2,e0,g,(.rows []),i0,e,f] (ms [nS,i0] (v1 fun l=>ms [f] (w5 fun m n o p q=>TW .neq 31 q i0 (O0 [nS,i0,l,f,nS,i0,q]) (P 30 d (.rows [[g,m,n,o,p]]) fun r=>A3 a i1 fun s=>Y 35 [s,b,c,r,l,f])))))) (WT 60 f (.pv g) true bf (w4 fun h i j k=>A3 a i1 fun l=>Y 35 [l,b,c,d,e,f])))) (O 2 [nS,i0,e,f,d])
def g7b2d (a b c d e f g : PV) : T := L3 a b (X 55 c a (w1 fun h=>J (WT 60 f (.pv h) true bt (w4 fun i j k l=>C0 44 [i2,e0,h,(.rows []),i0,e,f,g] (ms [i0] (v1 fun m=>ms [f] (w6 fun n o p q r s=>TW .neq 31 s i0 (O0 [i0,m,f,n,nS,i0,s]) (P 30 d (.rows [[h,o,p,q,r]]) fun t=>A3 a i1 fun u=>Y 36 [u,b,c,t,m,f,n])))))) (WT 60 f (.pv h) true bf (w4 fun i j k l=>A3 a i1 fun m=>Y 36 [m,b,c,d,e,f,g])))) (O 2 [i0,e,f,g,d])
def g9 : T := O0 [nS,i0,i0,(.rows [])]
def g12a (a b c d e f g h i j k : PV) : T := J (D 45 [a,b,c,d,e,f,g,h,i,j,k] 0 0 (ms [nS,i] (v2 fun l m=>mz [bt] (G3 l (iv 1048576) (O0 [nS,i,l,m,i3]) (O0 [nS,i,l,m,i0])))) (ms [nS,i] (v2 fun l m=>mz [bf] (G3 l (iv 1048576) (O0 [nS,i,l,m,i3]) (C0 39 [i0,i,l,m] (ms [nS,i,l] (v1 fun n=>mz [i0] (O0 [nS,i,l,n,(iv 140)])))))))) (D 45 [a,b,c,d,e,f,g,h,i,j,k] 1 1 (ms [i] (v3 fun l m n=>mz [bt] (G3 l (iv 1048576) (O 1 [i,l,m,n,i3]) (O 1 [i,l,m,n,i0])))) (ms [i] (v3 fun l m n=>mz [bf] (G3 l (iv 1048576) (O 1 [i,l,m,n,i3]) (S 55 n (some (.pv i0)) none fun o=>L 55 o fun p=>C0 40 [i0,p,i0,o,n,i,l,m] (ms [n,i,l] (v1 fun q=>mz [i0] (S 55 n none (some (.pv i0)) fun r=>O 1 [i,l,q,r,(iv 140)]))))))))
def g12ab0a (a b c d : PV) : T := L3 a i0 (X 55 nS a (w1 fun e=>DE 60 d (.pv e) fun f=>A3 a i1 fun g=>Y 39 [g,b,c,f])) (O0 [nS,b,c,d,i0])
def g12ab0b (a b c d e f g h : PV) : T := L3 a b (X 55 d a (w1 fun i=>SU c a fun j=>X 55 e j (w1 fun k=>DE 60 h (.pv k) fun l=>A3 a i1 fun m=>Y 40 [m,b,c,d,e,f,g,l]))) (O0 [e,f,g,h,i0])
def g12b (a b c d e f g h i j k l : PV) : T := L 55 l fun m=>J (D 46 [a,b,c,d,e,f,g,h,i,j,k,l] 0 0 (ms [i] (v2 fun n o=>mz [l,bt] (G3 n (iv 1048576) (O0 [i,n,o,l,i3]) (O0 [i,n,o,l,i0])))) (ms [i] (v2 fun n o=>mz [l,bf] (G3 n (iv 1048576) (O0 [i,n,o,l,i3]) (S 55 l (some (.pv m)) none fun p=>L 55 p fun q=>C0 42 [i0,q,m,p,m,l,i,n,o] (ms [l,i,n] (v1 fun r=>mz [m] (S 55 l none (some (.pv m)) fun s=>O 1 [i,n,r,s,(iv 140)])))))))) (D 46 [a,b,c,d,e,f,g,h,i,j,k,l] 1 1 (ms [i] (v3 fun n o p=>mz [bt] (G3 n (iv 1048576) (O 1 [i,n,o,p,i3]) (O 1 [i,n,o,p,i0])))) (ms [i] (v3 fun n o p=>mz [bf] (G3 n (iv 1048576) (O 1 [i,n,o,p,i3]) (S 55 p (some (.pv m)) none fun q=>L 55 q fun r=>C0 42 [i0,r,m,q,m,p,i,n,o] (ms [p,i,n] (v1 fun s=>mz [m] (S 55 p none (some (.pv m)) fun t=>O 1 [i,n,s,t,(iv 140)]))))))))
def g12bb0a (a b c d e f g h i : PV) : T := L3 a b (X 55 d a (w1 fun j=>SU c a fun k=>X 55 f k (w1 fun l=>DE 60 i (.pv l) fun m=>A3 a i1 fun n=>Y 42 [n,b,c,d,e,f,g,h,m]))) (O0 [f,g,h,i,e])
def g15a (a b c d e f g : PV) : T := C0 47 [a,b,c,d,e,f,g,i0] (ms [nS,e] (v1 fun h=>ms [g] (w5 fun i j k l m=>G3 i (iv 5000) (O0 [nS,e,(iv 1048577),g,i0,e0,i0,nS,i3]) (G3 h (iv 1048576) (O0 [nS,e,(iv 1048577),g,i0,e0,i0,nS,i3]) (O0 [nS,e,h,g,j,k,l,m,i0])))))
def g15b (a b c d e f g h : PV) : T := C0 49 [a,b,c,d,e,f,g,h,i0] (ms [e] (v1 fun i=>ms [g] (w6 fun j k l m n o=>G3 k (iv 5000) (O0 [e,(iv 1048577),g,j,i0,e0,i0,nS,i3]) (G3 i (iv 1048576) (O0 [e,(iv 1048577),g,j,i0,e0,i0,nS,i3]) (O0 [e,i,g,j,l,m,n,o,i0])))))
def g26a (a b c d e f g h i j k : PV) : T := C0 51 [a,b,c,d,i,j,k] (ms [nS,i,j,k] (w4 fun l m n o=>C0 51 [e,f,g,h,i,j,k] (ms [nS,i,j,k] (w4 fun p q r s=>D 53 [i,j,k] 0 0 (ms [nS,i] (v1 fun t=>mz [k,bt] (N3 l i2 (E3 p i2 (E3 l i2 (E3 n r (O0 [nS,i,t,k,bt]) (D 54 [r,l,m,n,o,i,t,k] 0 0 (ms [nS,i] (v1 fun u=>mz [k,bt] (O0 [nS,i,u,k,bf]))) (ms [nS,i] (v1 fun u=>mz [k,bf] (C0 55 [r,l,m,n,o,i,u,k] (ms [i,u] (w2 fun v w=>O 1 [i,u,v,w,bt]))))))) (D 54 [r,l,m,n,o,i,t,k] 0 0 (ms [nS,i] (v1 fun u=>mz [k,bt] (O0 [nS,i,u,k,bf]))) (ms [nS,i] (v1 fun u=>mz [k,bf] (C0 55 [r,l,m,n,o,i,u,k] (ms [i,u] (w2 fun v w=>O 1 [i,u,v,w,bt]))))))) (E3 p l (E9 q m (E3 r n (J (D 56 [s,o,i,t,k] 0 0 (ms [nS,i] (v2 fun u v=>mz [bt] (O0 [nS,i,u,v,bt]))) (ms [nS,i] (v2 fun u v=>mz [bf] (O0 [nS,i,u,v,bf])))) (D 56 [s,o,i,t,k] 1 1 (ms [i] (v3 fun u v w=>mz [bt] (O 1 [i,u,v,w,bt]))) (ms [i] (v3 fun u v w=>mz [bf] (O 1 [i,u,v,w,bf]))))) (O0 [nS,i,t,k,bf])) (O0 [nS,i,t,k,bf])) (O0 [nS,i,t,k,bf]))) (E3 p i2 (G3 r n (E3 l i2 (E3 n r (O0 [nS,i,t,k,bt]) (D 54 [r,l,m,n,o,i,t,k] 0 0 (ms [nS,i] (v1 fun u=>mz [k,bt] (O0 [nS,i,u,k,bf]))) (ms [nS,i] (v1 fun u=>mz [k,bf] (C0 55 [r,l,m,n,o,i,u,k] (ms [i,u] (w2 fun v w=>O 1 [i,u,v,w,bt]))))))) (D 54 [r,l,m,n,o,i,t,k] 0 0 (ms [nS,i] (v1 fun u=>mz [k,bt] (O0 [nS,i,u,k,bf]))) (ms [nS,i] (v1 fun u=>mz [k,bf] (C0 55 [r,l,m,n,o,i,u,k] (ms [i,u] (w2 fun v w=>O 1 [i,u,v,w,bt]))))))) (E3 l i2 (E3 r n (O0 [nS,i,t,k,bt]) (D 54 [n,p,q,r,s,i,t,k] 0 0 (ms [nS,i] (v1 fun u=>mz [k,bt] (O0 [nS,i,u,k,bf]))) (ms [nS,i] (v1 fun u=>mz [k,bf] (C0 55 [n,p,q,r,s,i,u,k] (ms [i,u] (w2 fun v w=>O 1 [i,u,v,w,bt]))))))) (E3 l p (E9 m q (E3 n r (J (D 56 [o,s,i,t,k] 0 0 (ms [nS,i] (v2 fun u v=>mz [bt] (O0 [nS,i,u,v,bt]))) (ms [nS,i] (v2 fun u v=>mz [bf] (O0 [nS,i,u,v,bf])))) (D 56 [o,s,i,t,k] 1 1 (ms [i] (v3 fun u v w=>mz [bt] (O 1 [i,u,v,w,bt]))) (ms [i] (v3 fun u v w=>mz [bf] (O 1 [i,u,v,w,bf]))))) (O0 [nS,i,t,k,bf])) (O0 [nS,i,t,k,bf])) (O0 [nS,i,t,k,bf])))) (E3 l i2 (D 54 [n,p,q,r,s,i,t,k] 0 0 (ms [nS,i] (v1 fun u=>mz [k,bt] (O0 [nS,i,u,k,bf]))) (ms [nS,i] (v1 fun u=>mz [k,bf] (C0 55 [n,p,q,r,s,i,u,k] (ms [i,u] (w2 fun v w=>O 1 [i,u,v,w,bt])))))) (E3 l p (E9 m q (E3 n r (J (D 56 [o,s,i,t,k] 0 0 (ms [nS,i] (v2 fun u v=>mz [bt] (O0 [nS,i,u,v,bt]))) (ms [nS,i] (v2 fun u v=>mz [bf] (O0 [nS,i,u,v,bf])))) (D 56 [o,s,i,t,k] 1 1 (ms [i] (v3 fun u v w=>mz [bt] (O 1 [i,u,v,w,bt]))) (ms [i] (v3 fun u v w=>mz [bf] (O 1 [i,u,v,w,bf]))))) (O0 [nS,i,t,k,bf])) (O0 [nS,i,t,k,bf])) (O0 [nS,i,t,k,bf]))))))) (ms [nS,i] (v1 fun t=>mz [k,bf] (O0 [nS,i,t,k,bf])))))))
def g26b (a b c d e f g h i j k l : PV) : T := C0 59 [a,b,c,d,i,j,k,l] (ms [i,j,k,l] (w4 fun m n o p=>C0 59 [e,f,g,h,i,j,k,l] (ms [i,j,k,l] (w4 fun q r s t=>D 61 [i,j,k,l] 0 0 (ms [i] (v1 fun u=>mz [k,l,bt] (N3 m i2 (E3 q i2 (E3 m i2 (E3 o s (O0 [i,u,k,l,bt]) (D 62 [s,m,n,o,p,i,u,k,l] 0 0 (ms [i] (v1 fun v=>mz [k,l,bt] (O0 [i,v,k,l,bf]))) (ms [i] (v1 fun v=>mz [k,l,bf] (C0 63 [s,m,n,o,p,i,v,k,l] (ms [i,v] (w2 fun w x=>O 1 [i,v,w,x,bt]))))))) (D 62 [s,m,n,o,p,i,u,k,l] 0 0 (ms [i] (v1 fun v=>mz [k,l,bt] (O0 [i,v,k,l,bf]))) (ms [i] (v1 fun v=>mz [k,l,bf] (C0 63 [s,m,n,o,p,i,v,k,l] (ms [i,v] (w2 fun w x=>O 1 [i,v,w,x,bt]))))))) (E3 q m (E9 r n (E3 s o (J (D 64 [t,p,i,u,k,l] 0 0 (ms [i] (v2 fun v w=>mz [l,bt] (O0 [i,v,w,l,bt]))) (ms [i] (v2 fun v w=>mz [l,bf] (O0 [i,v,w,l,bf])))) (D 64 [t,p,i,u,k,l] 1 1 (ms [i] (v3 fun v w x=>mz [bt] (O 1 [i,v,w,x,bt]))) (ms [i] (v3 fun v w x=>mz [bf] (O 1 [i,v,w,x,bf]))))) (O0 [i,u,k,l,bf])) (O0 [i,u,k,l,bf])) (O0 [i,u,k,l,bf]))) (E3 q i2 (G3 s o (E3 m i2 (E3 o s (O0 [i,u,k,l,bt]) (D 62 [s,m,n,o,p,i,u,k,l] 0 0 (ms [i] (v1 fun v=>mz [k,l,bt] (O0 [i,v,k,l,bf]))) (ms [i] (v1 fun v=>mz [k,l,bf] (C0 63 [s,m,n,o,p,i,v,k,l] (ms [i,v] (w2 fun w x=>O 1 [i,v,w,x,bt]))))))) (D 62 [s,m,n,o,p,i,u,k,l] 0 0 (ms [i] (v1 fun v=>mz [k,l,bt] (O0 [i,v,k,l,bf]))) (ms [i] (v1 fun v=>mz [k,l,bf] (C0 63 [s,m,n,o,p,i,v,k,l] (ms [i,v] (w2 fun w x=>O 1 [i,v,w,x,bt]))))))) (E3 m i2 (E3 s o (O0 [i,u,k,l,bt]) (D 62 [o,q,r,s,t,i,u,k,l] 0 0 (ms [i] (v1 fun v=>mz [k,l,bt] (O0 [i,v,k,l,bf]))) (ms [i] (v1 fun v=>mz [k,l,bf] (C0 63 [o,q,r,s,t,i,v,k,l] (ms [i,v] (w2 fun w x=>O 1 [i,v,w,x,bt]))))))) (E3 m q (E9 n r (E3 o s (J (D 64 [p,t,i,u,k,l] 0 0 (ms [i] (v2 fun v w=>mz [l,bt] (O0 [i,v,w,l,bt]))) (ms [i] (v2 fun v w=>mz [l,bf] (O0 [i,v,w,l,bf])))) (D 64 [p,t,i,u,k,l] 1 1 (ms [i] (v3 fun v w x=>mz [bt] (O 1 [i,v,w,x,bt]))) (ms [i] (v3 fun v w x=>mz [bf] (O 1 [i,v,w,x,bf]))))) (O0 [i,u,k,l,bf])) (O0 [i,u,k,l,bf])) (O0 [i,u,k,l,bf])))) (E3 m i2 (D 62 [o,q,r,s,t,i,u,k,l] 0 0 (ms [i] (v1 fun v=>mz [k,l,bt] (O0 [i,v,k,l,bf]))) (ms [i] (v1 fun v=>mz [k,l,bf] (C0 63 [o,q,r,s,t,i,v,k,l] (ms [i,v] (w2 fun w x=>O 1 [i,v,w,x,bt])))))) (E3 m q (E9 n r (E3 o s (J (D 64 [p,t,i,u,k,l] 0 0 (ms [i] (v2 fun v w=>mz [l,bt] (O0 [i,v,w,l,bt]))) (ms [i] (v2 fun v w=>mz [l,bf] (O0 [i,v,w,l,bf])))) (D 64 [p,t,i,u,k,l] 1 1 (ms [i] (v3 fun v w x=>mz [bt] (O 1 [i,v,w,x,bt]))) (ms [i] (v3 fun v w x=>mz [bf] (O 1 [i,v,w,x,bf]))))) (O0 [i,u,k,l,bf])) (O0 [i,u,k,l,bf])) (O0 [i,u,k,l,bf]))))))) (ms [i] (v1 fun u=>mz [k,l,bf] (O0 [i,u,k,l,bf])))))))
def g31a (a b c d e f g h : PV) : T := C0 51 [a,b,c,d,e,f,g] (ms [nS,e,f,g] (w4 fun i j k l=>A3 h i1 fun m=>G3 m (iv 5000) (O0 [nS,e,f,g,m,i,j,k,l]) (D 53 [e,f,g] 0 0 (ms [nS,e] (v1 fun n=>mz [g,bt] (L 25 l fun o=>MK 25 o fun p=>C0 48 [i0,o,l,p,e,n,g,m,i,j,k,l] (v1 fun q=>ms [nS,e] (v1 fun r=>ms [g] (v1 fun s=>mz [i,j,k,l,i0,e0,i0,nS] (O0 [nS,e,r,g,s,i,j,k,q]))))))) (ms [nS,e] (v1 fun n=>mz [g,bf] (O0 [nS,e,n,g,m,i,j,k,l]))))))
def g31ab0a (a b c d e f g h i j k l : PV) : T := L3 a b (X 25 c a (w4 fun m n o p=>C0 47 [m,n,o,p,e,f,g,h] (ms [nS,e] (v1 fun q=>ms [g] (w5 fun r s t u v=>X 25 d a (w4 fun w x y z=>SE d a 0 [s,t,u,v] fun a0=>A3 a i1 fun b0=>Y 48 [b0,b,c,a0,e,q,g,r,i,j,k,l])))))) (O0 [d,nS,e,f,g,h,i,j,k,l,i0,e0,i0,nS])
def g31b (a b c d e f g h i : PV) : T := C0 59 [a,b,c,d,e,f,g,h] (ms [e,f,g,h] (w4 fun j k l m=>A3 i i1 fun n=>G3 n (iv 5000) (O0 [e,f,g,h,n,j,k,l,m]) (D 61 [e,f,g,h] 0 0 (ms [e] (v1 fun o=>mz [g,h,bt] (L 25 m fun p=>MK 25 p fun q=>C0 50 [i0,p,m,q,e,o,g,h,n,j,k,l,m] (v1 fun r=>ms [e] (v1 fun s=>ms [g] (v2 fun t u=>mz [j,k,l,m,i0,e0,i0,nS] (O0 [e,s,g,t,u,j,k,l,r]))))))) (ms [e] (v1 fun o=>mz [g,h,bf] (O0 [e,o,g,h,n,j,k,l,m]))))))
def g31bb0a (a b c d e f g h i j k l m : PV) : T := L3 a b (X 25 c a (w4 fun n o p q=>C0 49 [n,o,p,q,e,f,g,h,i] (ms [e] (v1 fun r=>ms [g] (w6 fun s t u v w x=>X 25 d a (w4 fun y z a0 b0=>SE d a 0 [u,v,w,x] fun c0=>A3 a i1 fun d0=>Y 50 [d0,b,c,c0,e,r,g,s,t,j,k,l,m])))))) (O0 [d,e,f,g,h,i,j,k,l,m,i0,e0,i0,nS])
def g17a (a b c d e f g : PV) : T := J (D 52 [a,b,c,d,e,f,g,i0,e0,i0] 1 1 (v4 fun h i j k=>ms [nS,e,f,g] (v3 fun l m n=>mz [nS] (O0 [nS,e,f,g,h,i,j,k]))) (v4 fun h i j k=>ms [nS,e,f,g] (w4 fun l m n o=>O0 [nS,e,f,g,h,i,j,k]))) (D 52 [a,b,c,d,e,f,g,i0,e0,i0] 0 0 (v4 fun h i j k=>ms [nS,e,f,g] (v3 fun l m n=>mz [nS] (O0 [nS,e,f,g,l,m,n,nS]))) (v4 fun h i j k=>ms [nS,e,f,g] (w4 fun l m n o=>O0 [nS,e,f,g,l,m,n,o])))
def g17ab0a (a b c d e f g h i j : PV) : T := E3 a i2 (J (WT 60 g (.pv c) true bt (w4 fun k l m n=>Y 52 [k,l,m,n,e,f,g,h,i,j])) (WT 60 g (.pv c) true bf (w4 fun k l m n=>O0 [a,b,c,d,nS,e,f,g,a,b,c,d]))) (O 1 [a,b,c,d,nS,e,f,g,h,i,j,nS])
def g39a (a b c : PV) : T := A3 b i1 fun d=>K3 d (iv 1048576) (O0 [nS,a,d,c,bt]) (O0 [nS,a,d,c,bf])
def g40a (a b c d e f g h : PV) : T := C0 51 [b,c,d,e,f,g,h] (ms [nS,f,g,h] (w4 fun i j k l=>D 53 [f,g,h] 0 0 (ms [nS,f] (v1 fun m=>mz [h,bt] (E3 i i2 (E3 k a (O0 [nS,f,m,h,bt]) (O0 [nS,f,m,h,bf])) (D 67 [l,f,m,h,a] 0 0 (ms [nS,f] (v1 fun n=>mz [h,a,bt] (O0 [nS,f,n,h,bt]))) (ms [nS,f] (v1 fun n=>mz [h,a,bf] (O0 [nS,f,n,h,bf]))))))) (ms [nS,f] (v1 fun m=>mz [h,bf] (O0 [nS,f,m,h,bf])))))
def g41a (a b c d e f g h : PV) : T := Z 60 h (.pv a) (.agg [(.pv b),(.pv c),(.pv d),(.pv e)]) fun i=>AQ 55 nS (.rows [[a]]) fun j=>O0 [f,g,i,j]
def g42a (a b c d e : PV) : T := L 25 a fun f=>L 25 b fun g=>N3 f g (O0 [nS,c,d,e,bf]) (J (D 57 [i0,f,a,b,c,d,e] 2 3 (ms [nS,c] (w2 fun h i=>O0 [nS,c,h,i,bt])) (ms [c] (w3 fun h i j=>O 1 [c,h,i,j,bt]))) (J (D 57 [i0,f,a,b,c,d,e] 0 0 (ms [nS,c] (v2 fun h i=>mz [bt] (O0 [nS,c,h,i,bt]))) (ms [nS,c] (v2 fun h i=>mz [bf] (O0 [nS,c,h,i,bf])))) (D 57 [i0,f,a,b,c,d,e] 1 1 (ms [c] (v3 fun h i j=>mz [bt] (O 1 [c,h,i,j,bt]))) (ms [c] (v3 fun h i j=>mz [bf] (O 1 [c,h,i,j,bf]))))))
def g42ab0a (a b c d e f g : PV) : T := L3 a b (X 25 c a (w4 fun h i j k=>X 25 d a (w4 fun l m n o=>J (D 45 [h,i,j,k,l,m,n,o,e,f,g] 0 0 (ms [nS,e] (v2 fun p q=>mz [bt] (A3 a i1 fun r=>Y 57 [r,b,c,d,e,p,q]))) (ms [nS,e] (v2 fun p q=>mz [bf] (O0 [nS,e,p,q,bf])))) (D 45 [h,i,j,k,l,m,n,o,e,f,g] 1 1 (ms [e] (v3 fun p q r=>mz [bt] (A3 a i1 fun s=>Y 58 [s,b,c,d,e,p,q,r]))) (ms [e] (v3 fun p q r=>mz [bf] (O 1 [e,p,q,r,bf]))))))) (O 2 [nS,e,f,g])
def g42ab0b (a b c d e f g h : PV) : T := L3 a b (X 25 c a (w4 fun i j k l=>X 25 d a (w4 fun m n o p=>J (D 46 [i,j,k,l,m,n,o,p,e,f,g,h] 0 0 (ms [e] (v2 fun q r=>mz [h,bt] (A3 a i1 fun s=>Y 58 [s,b,c,d,e,q,r,h]))) (ms [e] (v2 fun q r=>mz [h,bf] (O 1 [e,q,r,h,bf])))) (D 46 [i,j,k,l,m,n,o,p,e,f,g,h] 1 1 (ms [e] (v3 fun q r s=>mz [bt] (A3 a i1 fun t=>Y 58 [t,b,c,d,e,q,r,s]))) (ms [e] (v3 fun q r s=>mz [bf] (O 1 [e,q,r,s,bf]))))))) (O 3 [e,f,g,h])
def g17b (a b c d e f g h : PV) : T := J (D 60 [a,b,c,d,e,f,g,h,i0,e0,i0] 1 1 (v4 fun i j k l=>ms [e,f,g,h] (v3 fun m n o=>mz [nS] (O0 [e,f,g,h,i,j,k,l]))) (v4 fun i j k l=>ms [e,f,g,h] (w4 fun m n o p=>O0 [e,f,g,h,i,j,k,l]))) (D 60 [a,b,c,d,e,f,g,h,i0,e0,i0] 0 0 (v4 fun i j k l=>ms [e,f,g,h] (v3 fun m n o=>mz [nS] (O0 [e,f,g,h,m,n,o,nS]))) (v4 fun i j k l=>ms [e,f,g,h] (w4 fun m n o p=>O0 [e,f,g,h,m,n,o,p])))
def g17bb0a (a b c d e f g h i j k : PV) : T := E3 a i2 (J (WT 60 g (.pv c) true bt (w4 fun l m n o=>Y 60 [l,m,n,o,e,f,g,h,i,j,k])) (WT 60 g (.pv c) true bf (w4 fun l m n o=>O0 [a,b,c,d,e,f,g,h,a,b,c,d]))) (O 1 [a,b,c,d,e,f,g,h,i,j,k,nS])
def g39b (a b c d : PV) : T := A3 b i1 fun e=>K3 e (iv 1048576) (O0 [a,e,c,d,bt]) (O0 [a,e,c,d,bf])
def g40b (a b c d e f g h i : PV) : T := C0 59 [b,c,d,e,f,g,h,i] (ms [f,g,h,i] (w4 fun j k l m=>D 61 [f,g,h,i] 0 0 (ms [f] (v1 fun n=>mz [h,i,bt] (E3 j i2 (E3 l a (O0 [f,n,h,i,bt]) (O0 [f,n,h,i,bf])) (D 68 [m,f,n,h,i,a] 0 0 (ms [f] (v1 fun o=>mz [h,i,a,bt] (O0 [f,o,h,i,bt]))) (ms [f] (v1 fun o=>mz [h,i,a,bf] (O0 [f,o,h,i,bf]))))))) (ms [f] (v1 fun n=>mz [h,i,bf] (O0 [f,n,h,i,bf])))))
def g41b (a b c d e f g h i : PV) : T := Z 60 h (.pv a) (.agg [(.pv b),(.pv c),(.pv d),(.pv e)]) fun j=>L 55 i fun k=>S 55 i none (some (.pv k)) fun l=>AQ 55 l (.rows [[a]]) fun m=>O0 [f,g,j,m]
def g42b (a b c d e f : PV) : T := L 25 a fun g=>L 25 b fun h=>N3 g h (O0 [c,d,e,f,bf]) (J (D 65 [i0,g,a,b,c,d,e,f] 2 3 (ms [c] (v2 fun i j=>mz [f] (O0 [c,i,j,f,bt]))) (ms [c] (w3 fun i j k=>O 1 [c,i,j,k,bt]))) (J (D 65 [i0,g,a,b,c,d,e,f] 0 0 (ms [c] (v2 fun i j=>mz [f,bt] (O0 [c,i,j,f,bt]))) (ms [c] (v2 fun i j=>mz [f,bf] (O0 [c,i,j,f,bf])))) (D 65 [i0,g,a,b,c,d,e,f] 1 1 (ms [c] (v3 fun i j k=>mz [bt] (O 1 [c,i,j,k,bt]))) (ms [c] (v3 fun i j k=>mz [bf] (O 1 [c,i,j,k,bf]))))))
def g42bb0a (a b c d e f g h : PV) : T := L3 a b (X 25 c a (w4 fun i j k l=>X 25 d a (w4 fun m n o p=>J (D 46 [i,j,k,l,m,n,o,p,e,f,g,h] 0 0 (ms [e] (v2 fun q r=>mz [h,bt] (A3 a i1 fun s=>Y 65 [s,b,c,d,e,q,r,h]))) (ms [e] (v2 fun q r=>mz [h,bf] (O0 [e,q,r,h,bf])))) (D 46 [i,j,k,l,m,n,o,p,e,f,g,h] 1 1 (ms [e] (v3 fun q r s=>mz [bt] (A3 a i1 fun t=>Y 66 [t,b,c,d,e,q,r,s]))) (ms [e] (v3 fun q r s=>mz [bf] (O 1 [e,q,r,s,bf]))))))) (O 2 [e,f,g,h])
def g42bb0b (a b c d e f g h : PV) : T := L3 a b (X 25 c a (w4 fun i j k l=>X 25 d a (w4 fun m n o p=>J (D 46 [i,j,k,l,m,n,o,p,e,f,g,h] 0 0 (ms [e] (v2 fun q r=>mz [h,bt] (A3 a i1 fun s=>Y 66 [s,b,c,d,e,q,r,h]))) (ms [e] (v2 fun q r=>mz [h,bf] (O 1 [e,q,r,h,bf])))) (D 46 [i,j,k,l,m,n,o,p,e,f,g,h] 1 1 (ms [e] (v3 fun q r s=>mz [bt] (A3 a i1 fun t=>Y 66 [t,b,c,d,e,q,r,s]))) (ms [e] (v3 fun q r s=>mz [bf] (O 1 [e,q,r,s,bf]))))))) (O 3 [e,f,g,h])
def g57a (a b c d e : PV) : T := C0 69 [a,b,c,d,e] (ms [nS,b] (v1 fun f=>ms [d,e] (w1 fun g=>H3 g i0 (O0 [nS,b,f,d,e,bt]) (O0 [nS,b,f,d,e,bf]))))
def g57b (a b c d e f : PV) : T := C0 71 [a,b,c,d,e,f] (ms [b] (v1 fun g=>ms [d,e,f] (w1 fun h=>H3 h i0 (O0 [b,g,d,e,f,bt]) (O0 [b,g,d,e,f,bf]))))
def g65a (a b c d e : PV) : T := L 25 a fun f=>D 70 [i0,f,a,b,c,d,e] 1 0 (ms [nS,b] (v1 fun g=>mz [d,e] (O0 [nS,b,g,d,e,(iv (-1))]))) (ms [nS,b] (v1 fun g=>ms [d,e] (w1 fun h=>O0 [nS,b,g,d,e,h])))
def g65ab0a (a b c d e f g : PV) : T := L3 a b (X 25 c a (w4 fun h i j k=>D 73 [h,i,j,k,d,e,f,g] 0 0 (ms [nS,d] (v1 fun l=>mz [f,g,bt] (O0 [nS,d,l,f,g,a]))) (ms [nS,d] (v1 fun l=>mz [f,g,bf] (A3 a i1 fun m=>Y 70 [m,b,c,d,l,f,g]))))) (O 1 [nS,d,e,f,g])
def g65b (a b c d e f : PV) : T := L 25 a fun g=>D 72 [i0,g,a,b,c,d,e,f] 1 0 (ms [b] (v1 fun h=>mz [d,e,f] (O0 [b,h,d,e,f,(iv (-1))]))) (ms [b] (v1 fun h=>ms [d,e,f] (w1 fun i=>O0 [b,h,d,e,f,i])))
def g65bb0a (a b c d e f g h : PV) : T := L3 a b (X 25 c a (w4 fun i j k l=>D 74 [i,j,k,l,d,e,f,g,h] 0 0 (ms [d] (v1 fun m=>mz [f,g,h,bt] (O0 [d,m,f,g,h,a]))) (ms [d] (v1 fun m=>mz [f,g,h,bf] (A3 a i1 fun n=>Y 72 [n,b,c,d,m,f,g,h]))))) (O 1 [d,e,f,g,h])
def g58a (a b c d e f g h : PV) : T := D 54 [h,a,b,c,d,e,f,g] 0 0 (ms [nS,e] (v1 fun i=>mz [g,bt] (O0 [nS,e,i,g,h,bt]))) (ms [nS,e] (v1 fun i=>mz [g,bf] (O0 [nS,e,i,g,h,bf])))
def g58b (a b c d e f g h i : PV) : T := D 62 [i,a,b,c,d,e,f,g,h] 0 0 (ms [e] (v1 fun j=>mz [g,h,bt] (O0 [e,j,g,h,i,bt]))) (ms [e] (v1 fun j=>mz [g,h,bf] (O0 [e,j,g,h,i,bf])))
end
def k0 (g : Rf) : Et := g  0
def k1 (g : PV → Rf) : Et := g (.sym 0) 1
def k2 (g : PV → PV → Rf) : Et := g (.sym 0) (.sym 1) 2
def k3 (g : PV → PV → PV → Rf) : Et := g (.sym 0) (.sym 1) (.sym 2) 3
def k4 (g : PV → PV → PV → PV → Rf) : Et := g (.sym 0) (.sym 1) (.sym 2) (.sym 3) 4
def k5 (g : PV → PV → PV → PV → PV → Rf) : Et := g (.sym 0) (.sym 1) (.sym 2) (.sym 3) (.sym 4) 5
def k6 (g : PV → PV → PV → PV → PV → PV → Rf) : Et := g (.sym 0) (.sym 1) (.sym 2) (.sym 3) (.sym 4) (.sym 5) 6
def k7 (g : PV → PV → PV → PV → PV → PV → PV → Rf) : Et := g (.sym 0) (.sym 1) (.sym 2) (.sym 3) (.sym 4) (.sym 5) (.sym 6) 7
def k8 (g : PV → PV → PV → PV → PV → PV → PV → PV → Rf) : Et := g (.sym 0) (.sym 1) (.sym 2) (.sym 3) (.sym 4) (.sym 5) (.sym 6) (.sym 7) 8
def k9 (g : PV → PV → PV → PV → PV → PV → PV → PV → PV → Rf) : Et := g (.sym 0) (.sym 1) (.sym 2) (.sym 3) (.sym 4) (.sym 5) (.sym 6) (.sym 7) (.sym 8) 9
def k10 (g : PV → PV → PV → PV → PV → PV → PV → PV → PV → PV → Rf) : Et := g (.sym 0) (.sym 1) (.sym 2) (.sym 3) (.sym 4) (.sym 5) (.sym 6) (.sym 7) (.sym 8) (.sym 9) 10
def k11 (g : PV → PV → PV → PV → PV → PV → PV → PV → PV → PV → PV → Rf) : Et := g (.sym 0) (.sym 1) (.sym 2) (.sym 3) (.sym 4) (.sym 5) (.sym 6) (.sym 7) (.sym 8) (.sym 9) (.sym 10) 11
def k12 (g : PV → PV → PV → PV → PV → PV → PV → PV → PV → PV → PV → PV → Rf) : Et := g (.sym 0) (.sym 1) (.sym 2) (.sym 3) (.sym 4) (.sym 5) (.sym 6) (.sym 7) (.sym 8) (.sym 9) (.sym 10) (.sym 11) 12
def k13 (g : PV → PV → PV → PV → PV → PV → PV → PV → PV → PV → PV → PV → PV → Rf) : Et := g (.sym 0) (.sym 1) (.sym 2) (.sym 3) (.sym 4) (.sym 5) (.sym 6) (.sym 7) (.sym 8) (.sym 9) (.sym 10) (.sym 11) (.sym 12) 13
def pR : Nat → Nat → List PV
  | _, 0 => []
  | a, n + 1 => .sym a :: pR (a + 1) n
def wR : Nat → Nat → List AV
  | _, 0 => []
  | a, n + 1 => .pv (.sym a) :: wR (a + 1) n
def nA : AV := .pv nS
def eA : AV := .pv e0
def zA : AV := .pv i0
def tA : AV := .pv bt
def fA : AV := .pv bf
def rA (n : Nat) : AV := .ptr n 0
def nR : Nat → List AV
  | 0 => []
  | n + 1 => nA :: nR n
def tk (t s n : Nat) : AObj := .tok t s (symBase + n)
def eF (f : Nat) (a : List AV) (h : List AObj) (n m : Nat) : Ent := { f := f, args := a, h := h, n := n, fam := m }
def eL (a b f : Nat) (e : Env) (h : List AObj) (n m : Nat) : Ent := { lp := some (a, b), f := f, e := e, h := h, n := n, fam := m }
def rn (r : List Nat) (e : Ent) : Ent := { e with rin := r }
def wkE (e : Ent) (m b : Nat) : Ent := { e with fam := m, base := some b }
def wkM (e : Ent) (m b : Nat) (wm : List Nat) : Ent := { e with fam := m, base := some b, wm := wm }
def yU (v : AV) (m : Nat) : Shape := { v := v, m := m }
def yV (v : AV) (h : List AObj) (m : Nat) : Shape := { v := v, h := h, m := m }
def yW (v : AV) (h : List AObj) (m : Nat) (r : List Nat) : Shape := { v := v, h := h, m := m, rw := r }
def yE (x : AExit) (e : Env) (h : List AObj) (m : Nat) : Shape := { ex := x, e := e, h := h, m := m }
def yR (x : AExit) (e : Env) (h : List AObj) (m : Nat) (r : List Nat) : Shape := { ex := x, e := e, h := h, m := m, rw := r }
def b27_4 (a : Nat) : AObj := .box 27 (wR a 4)
def o0 : AV := .pv (.sym 0)
def o1 : AV := .pv (.sym 1)
def o2 : AV := .pv (.sym 2)
def o3 : AV := .pv (.sym 3)
def o4 : AV := .pv (.sym 4)
def o5 : AV := .pv (.sym 5)
def o6 : AV := .pv (.sym 6)
def o7 : AV := .pv (.sym 7)
def o8 : AV := .pv (.sym 8)
def o9 : AV := .pv (.sym 9)
def o10 : AV := .pv (.sym 10)
def y0 : List AObj := [.box 62 [(.mp 1),(.arr 2),o0,o1], .mp [] [o2], .arr 3 1 (.sym 3)]
def y1 : List AObj := [.box 62 ([(.mp 1)] ++ wR 0 3), .mp [] [o3]]
def y2 : List AObj := [.box 38 [(rA 1)], .box 62 [(.mp 2),(.arr 3),o0,o1], .mp [] [o2], .arr 3 1 (.sym 3), .box 3 [o4]]
def y3 : List AObj := [.box 62 [(.mp 1),(.arr 3),o0,o1], .mp [] [o2], .dead, .arr 3 1 (.sym 3)]
def y4 : List AObj := [.box 38 [(rA 1)], .box 62 ([(.mp 2)] ++ wR 0 3), .mp [] [o3], .box 3 [o4]]
def y5 : Env := [(12,o0),(11,o1),(10,o2),(1,(.fn 35 [(.ptr 0 0)]))]
def y6 : Env := [(17,o0),(16,o1),(15,o2),(1,o3),(2,(.fn 1099511627802 [(.ptr 0 0)]))]
def y7 : List AObj := [.box 62 [(.mp 1),(.arr 2),o4,o5], .mp [] [o6], .arr 3 1 (.sym 7)]
def y8 : List AObj := [.box 55 [(.tsym 1 0)], tk 3 1 0]
def y9 : List AV := [(rA 0),(.agg (wR 0 4)),(.agg (wR 4 4))]
def y10 : List AObj := [.box 38 [(rA 1)], .box 62 [(.mp 2),(.arr 3),o1,o2], .mp [] [o3], .arr 3 1 (.sym 4), .box 3 [o5]]
def y11 : List AObj := [b27_4 0, .box 62 [(.mp 2),(.arr 3),o4,o5], .mp [] [o6], .arr 3 1 (.sym 7), b27_4 8]
def en11 : Ent := eF 22 [(.agg (wR 0 4))] [] 4 10
def en28 : Ent := eF 7 [o0] [] 1 23
def en80 : Ent := wkE en28 67 28
def en81 : Ent := wkE en11 68 11
def enL : List Ent := [
  eF 3 [o0,o1] [] 2 0,
  eL 0 0 3 [(35,o0),(34,o1),(33,o2),(5,nA),(0,o3),(1,o4)] [] 5 1,
  rn [3] (eL 0 0 3 [(35,o0),(34,o1),(33,o2),(5,(.tsym 0 3)),(0,o4),(1,o5)] [tk 29 8 3] 6 1),
  eL 2 0 3 [(85,o0),(84,o1),(8,o2),(11,o3),(0,o4),(1,o5),(10,o6)] [] 7 2,
  eF 6 [o0] [] 1 3,
  eL 0 0 6 [(7,o0),(6,o1),(5,o2),(0,o3)] [] 4 4,
  eF 20 [(.agg (wR 0 4))] [] 4 5,
  eL 0 0 20 [(22,o0),(21,o1),(20,o2)] [] 3 6,
  eF 21 [(.agg (wR 0 4)),o4] [] 5 7,
  eF 33 [(.agg (wR 0 4)),o4] [] 5 8,
  eL 0 1 33 [(6,o0),(2,(rA 0)),(5,o1),(1,o2)] [b27_4 3] 7 9,
  en11,
  eF 8 [(.agg (wR 0 4)),(.agg (wR 4 4))] [] 8 11,
  eF 25 [o0,o1] [] 2 12,
  eL 0 0 25 [(5,o0),(0,o1),(1,o2)] [] 3 13,
  eF 36 [o0,o1] [] 2 14,
  eF 45 [o0,o1] [] 2 15,
  eL 0 0 45 [(8,o0),(7,o1),(1,o2),(0,o3)] [] 4 16,
  eF 34 [(.agg (wR 0 4)),(.fn 35 [(.ptr 0 0)])] [.box 55 [nA]] 4 17,
  eL 0 1 34 y5 [.box 55 [nA]] 3 18,
  rn [3] (eL 0 2 34 y5 [.box 55 [(.tsym 1 3)], tk 3 1 3] 4 19),
  rn [3] (eL 0 1 34 y5 [.box 55 [(.tsym 1 3)], tk 3 1 3] 4 18),
  rn [3] (eL 0 2 34 y5 [.box 55 [(.tsym 2 3)], .dead, tk 3 1 3] 4 19),
  eF 35 [(.agg (wR 0 4)),(rA 0)] [.box 55 [nA]] 4 20,
  rn [4] (eF 34 [(.agg (wR 0 4)),(.fn 35 [(.ptr 0 0)])] [.box 55 [(.tsym 1 4)], tk 3 1 4] 5 21),
  rn [3] (eL 0 2 34 y5 [.box 55 [(.tsym 1 3)], tk 3 1 3] 4 19),
  rn [3] (eL 0 2 34 y5 [.box 55 [(.tsym 2 3)], .dead, tk 3 1 3] 4 19),
  rn [4] (eF 35 [(.agg (wR 0 4)),(rA 0)] [.box 55 [(.tsym 1 4)], tk 3 1 4] 5 22),
  en28,
  eL 0 2 7 [(20,o0),(19,o1),(18,o2),(5,(rA 0)),(6,nA)] [.box 62 [(.mp 1),nA,zA,o3], .mp [] [o4]] 5 24,
  eL 0 2 7 [(20,o0),(19,o1),(18,o2),(5,(rA 0)),(6,(.arr 2))] [.box 62 [(.mp 1),nA,zA,o3], .mp [] [o4], .arr 3 1 (.sym 5)] 6 24,
  eL 0 2 7 [(20,o0),(19,o1),(18,o2),(5,(rA 0)),(6,(.arr 3))] [.box 62 [(.mp 1),(.arr 2),zA,o3], .mp [] [o4], .arr 3 1 (.sym 5), .arr 3 1 (.sym 6)] 7 24,
  eL 0 2 7 [(20,o0),(19,o1),(18,o2),(5,(rA 0)),(6,nA)] [.box 62 [(.mp 1),(.arr 2),zA,o3], .mp [] [o4], .arr 3 1 (.sym 5)] 6 24,
  eL 2 2 7 [(50,o0),(49,o1),(48,o2),(5,(rA 0)),(10,nA)] [.box 62 [(.mp 1),nA,zA,o3], .mp [] [o4]] 5 25,
  eL 2 3 7 [(50,o0),(49,o1),(48,o2),(5,(rA 0)),(10,nA)] [.box 62 [(.mp 1),(.arr 2),zA,o3], .mp [] [o4], .arr 3 1 (.sym 5)] 6 26,
  rn [3] (eL 2 2 7 [(50,o0),(49,o1),(48,o2),(5,(rA 0)),(10,(.tsym 2 3))] [.box 62 [(.mp 1),nA,zA,o4], .mp [] [o5], tk 35 5 3] 6 25),
  rn [3] (eL 2 3 7 [(50,o0),(49,o1),(48,o2),(5,(rA 0)),(10,(.tsym 3 3))] [.box 62 [(.mp 1),(.arr 2),zA,o4], .mp [] [o5], .arr 3 1 (.sym 6), tk 35 5 3] 7 26),
  eF 9 [] [] 0 27,
  eF 12 y9 [.box 62 [(.mp 1),nA,o8,o9], .mp [] [o10]] 11 28,
  eL 0 2 12 [(42,o0),(41,zA),(40,nA),(0,(rA 0)),(7,zA)] [.box 62 [(.mp 1),nA,o1,o2], .mp [] [o3]] 4 29,
  eL 0 3 12 [(42,o0),(41,o1),(40,(.arv 0 (.sym 2) (.sym 3))),(0,(rA 1)),(7,zA)] [.arr 3 1 (.sym 4), .box 62 [(.mp 2),(.arr 0),o5,o6], .mp [] [o7]] 8 30,
  eF 12 y9 [.box 62 [(.mp 1),(.arr 2),o8,o9], .mp [] [o10], .arr 3 1 (.sym 11)] 12 31,
  eL 0 3 12 [(42,o0),(41,o1),(40,(.arv 0 (.sym 2) (.sym 3))),(0,(rA 1)),(7,o4)] [.arr 3 1 (.sym 5), .box 62 [(.mp 2),(.arr 0),o6,o7], .mp [] [o8]] 9 30,
  eF 15 [(rA 0),(.agg (wR 0 4))] [.box 62 [(.mp 1),nA,o4,o5], .mp [] [o6]] 7 32,
  eF 15 [(rA 0),(.agg (wR 0 4))] y7 8 33,
  eF 26 y9 [.box 62 [(.mp 1),nA,o8,o9], .mp [] [o10]] 11 34,
  eF 26 y9 [.box 62 [(.mp 1),(.arr 2),o8,o9], .mp [] [o10], .arr 3 1 (.sym 11)] 12 35,
  eF 31 [(rA 0),(.agg (wR 0 4)),(rA 2)] [.box 62 [(.mp 1),nA,o4,o5], .mp [] [o6], .box 3 [o7]] 8 36,
  eL 0 6 31 [(35,o0),(34,o1),(33,o2),(7,(.arr 0)),(0,(rA 1)),(2,(rA 3)),(4,(rA 4)),(6,(rA 5))] [.arr 27 4 (.sym 3), .box 62 [(.mp 2),nA,o4,o5], .mp [] [o6], .box 3 [o7], b27_4 8, .box 27 [zA,eA,zA,nA]] 12 37,
  eF 31 [(rA 0),(.agg (wR 0 4)),(rA 3)] [.box 62 [(.mp 1),(.arr 2),o4,o5], .mp [] [o6], .arr 3 1 (.sym 7), .box 3 [o8]] 9 38,
  eL 0 7 31 [(35,o0),(34,o1),(33,o2),(7,(.arr 0)),(0,(rA 1)),(2,(rA 4)),(4,(rA 5)),(6,(rA 6))] [.arr 27 4 (.sym 3), .box 62 [(.mp 2),(.arr 3),o4,o5], .mp [] [o6], .arr 3 1 (.sym 7), .box 3 [o8], b27_4 9, .box 27 [zA,eA,zA,nA]] 13 39,
  eF 17 [(rA 0),(.agg (wR 0 4))] [.box 62 [(.mp 1),nA,o4,o5], .mp [] [o6]] 7 40,
  eL 0 4 17 [(3,(rA 0)),(0,(rA 1)),(4,(rA 3))] [b27_4 0, .box 62 [(.mp 2),nA,o4,o5], .mp [] [o6], .box 27 (wR 7 3 ++ [nA])] 10 41,
  eF 39 [(rA 0)] [.box 62 [(.mp 1),nA,o0,o1], .mp [] [o2]] 3 42,
  eF 40 [(rA 0),o0,(.agg (wR 1 4))] [.box 62 [(.mp 1),nA,o5,o6], .mp [] [o7]] 8 43,
  eF 41 [(rA 0),o0,(.agg (wR 1 4))] [.box 62 [(.mp 1),nA,o5,o6], .mp [] [o7]] 8 44,
  eF 42 [o0,o1,(.fn 1099511627802 [(.ptr 0 0)])] [.box 62 [(.mp 1),nA,o2,o3], .mp [] [o4]] 5 45,
  eL 0 2 42 y6 [.box 62 [(.mp 1),nA,o4,o5], .mp [] [o6]] 7 46,
  eL 0 2 42 y6 y7 8 46,
  eF 17 [(rA 0),(.agg (wR 0 4))] y7 8 47,
  eL 0 5 17 [(3,(rA 0)),(0,(rA 1)),(4,(rA 4))] [b27_4 0, .box 62 [(.mp 2),(.arr 3),o4,o5], .mp [] [o6], .arr 3 1 (.sym 7), .box 27 (wR 8 3 ++ [nA])] 11 48,
  eF 39 [(rA 0)] y0 4 49,
  eF 40 [(rA 0),o0,(.agg (wR 1 4))] [.box 62 [(.mp 1),(.arr 2),o5,o6], .mp [] [o7], .arr 3 1 (.sym 8)] 9 50,
  eF 41 [(rA 0),o0,(.agg (wR 1 4))] [.box 62 [(.mp 1),(.arr 2),o5,o6], .mp [] [o7], .arr 3 1 (.sym 8)] 9 51,
  eF 42 [o0,o1,(.fn 1099511627802 [(.ptr 0 0)])] [.box 62 [(.mp 1),(.arr 2),o2,o3], .mp [] [o4], .arr 3 1 (.sym 5)] 6 52,
  eL 0 3 42 y6 y7 8 53,
  eL 0 3 42 y6 [.box 62 [(.mp 1),(.arr 3),o4,o5], .mp [] [o6], .dead, .arr 3 1 (.sym 7)] 8 53,
  eF 57 [o0,(.fn 58 [(.ptr 0 0),(.ptr 3 0)])] [.box 38 [(rA 1)], .box 62 [(.mp 2),nA,o1,o2], .mp [] [o3], .box 3 [o4]] 5 54,
  eF 57 [o0,(.fn 58 [(.ptr 0 0),(.ptr 4 0)])] y10 6 55,
  eF 65 [o0,(.fn 58 [(.ptr 0 0),(.ptr 3 0)])] [.box 38 [(rA 1)], .box 62 [(.mp 2),nA,o1,o2], .mp [] [o3], .box 3 [o4]] 5 56,
  eL 0 4 65 [(8,o0),(7,o1),(1,(.fn 58 [(.ptr 0 0),(.ptr 3 0)])),(0,o2)] [.box 38 [(rA 1)], .box 62 [(.mp 2),nA,o3,o4], .mp [] [o5], .box 3 [o6]] 7 57,
  eF 65 [o0,(.fn 58 [(.ptr 0 0),(.ptr 4 0)])] y10 6 58,
  eL 0 5 65 [(8,o0),(7,o1),(1,(.fn 58 [(.ptr 0 0),(.ptr 4 0)])),(0,o2)] [.box 38 [(rA 1)], .box 62 [(.mp 2),(.arr 3),o3,o4], .mp [] [o5], .arr 3 1 (.sym 6), .box 3 [o7]] 8 59,
  eF 58 [(.agg (wR 0 4)),(rA 0),(rA 3)] [.box 38 [(rA 1)], .box 62 [(.mp 2),nA,o4,o5], .mp [] [o6], .box 3 [o7]] 8 60,
  eF 58 [(.agg (wR 0 4)),(rA 0),(rA 4)] [.box 38 [(rA 1)], .box 62 [(.mp 2),(.arr 3),o4,o5], .mp [] [o6], .arr 3 1 (.sym 7), .box 3 [o8]] 9 61,
  eF 5 [] [] 0 62,
  eF 23 [o0] [] 1 63,
  eF 23 [(.arr 0)] [.arr 3 1 (.sym 0)] 1 64,
  eF 24 [o0] [] 1 65,
  eF 24 [(.arr 0)] [.arr 3 1 (.sym 0)] 1 66,
  en80,
  en81]
def shT : List (List Shape) := [
  [yU o0 1],
  [yE (.exit 0) [(0,o0),(5,o1),(1,o2)] [] 3, yR (.exit 0) [(0,o0),(5,(.tsym 0 1)),(1,o2)] [tk 29 8 1] 3 [1]],
  [yE .ret [(4,o0)] [] 1, yE (.exit 2) [(0,o0),(1,o1),(10,o2)] [] 3],
  [yU o0 1],
  [yE .ret [(2,o0)] [] 1, yE (.exit 0) [(0,o0)] [] 1],
  [yU o0 1],
  [yE .ret [(2,o0)] [] 1, yE (.exit 0) [] [] 0],
  [yU o0 1],
  [yU o0 1],
  [yE (.exit 0) [(5,o4)] [b27_4 0] 5],
  [yU o0 1, yW (.tsym 0 0) [tk 3 1 0] 1 [0]],
  [yU o0 1],
  [yU o0 1],
  [yE .ret [(4,o0)] [] 1, yE (.exit 0) [] [] 0],
  [yU o0 1],
  [yU o0 1],
  [yE .ret [(4,o0)] [] 1, yE (.exit 0) [] [] 0],
  [yV (.tup []) [.box 55 [o0]] 1, yW (.tup []) y8 1 [0]],
  [yE (.exit 0) [] [.box 55 [o0]] 1, yR (.exit 0) [] y8 1 [0]],
  [yR (.exit 0) [] y8 1 [0], yR (.exit 0) [] [.box 55 [(.tsym 2 0)], .dead, tk 3 1 0] 1 [0]],
  [yV (.tup []) [.box 55 [o0]] 1, yW (.tup []) y8 1 [0]],
  [yW (.tup []) y8 1 [0], yW (.tup []) [.box 55 [(.tsym 2 0)], .dead, tk 3 1 0] 1 [0]],
  [yW (.tup []) y8 1 [0], yW (.tup []) [.box 55 [(.tsym 2 0)], .dead, tk 3 1 0] 1 [0]],
  [yU (.tup (wR 0 3)) 3, yW (.tup [(.tsym 0 0),o1,o2]) [tk 35 5 0] 3 [0]],
  [yE .ret [(2,o4),(3,o5),(4,o6)] y1 7, yE .ret [(2,o4),(3,o5),(4,o6)] y0 7, yE (.exit 0) [(6,o4),(5,(rA 0))] y1 5, yE (.exit 0) [(6,(.arr 2)),(5,(rA 0))] [.box 62 ([(.mp 1)] ++ wR 0 3), .mp [] [o3], .arr 3 1 (.sym 4)] 5, yE (.exit 0) [(6,(.arr 3)),(5,(rA 0))] [.box 62 [(.mp 1),(.arr 2),o0,o1], .mp [] [o2], .arr 3 1 (.sym 3), .arr 3 1 (.sym 4)] 5, yE (.exit 0) [(6,o4),(5,(rA 0))] y0 5],
  [yE .ret [(2,o4),(3,o5),(4,o6)] y1 7, yE (.exit 2) [(10,o4)] y1 5, yR (.exit 2) [(10,(.tsym 2 4))] [.box 62 ([(.mp 1)] ++ wR 0 3), .mp [] [o3], tk 35 5 4] 5 [4]],
  [yE .ret [(2,o4),(3,o5),(4,o6)] y0 7, yE (.exit 2) [(10,o4)] y0 5, yR (.exit 2) [(10,(.tsym 3 4))] [.box 62 [(.mp 1),(.arr 2),o0,o1], .mp [] [o2], .arr 3 1 (.sym 3), tk 35 5 4] 5 [4]],
  [yV (rA 0) y1 4],
  [yV o4 y1 5, yV o4 y0 5],
  [yE (.exit 0) [(0,(rA 0)),(7,o4)] y1 5],
  [yE (.exit 0) [(0,(rA 1)),(7,o4)] [.arr 3 1 (.sym 0), .box 62 [(.mp 2),(.arr 0),o1,o2], .mp [] [o3]] 5],
  [yV o4 y0 5, yV o4 y3 5],
  [yV (.tup [(.agg (wR 4 4)),o8]) y1 9],
  [yV (.tup [(.agg (wR 4 4)),o8]) y0 9],
  [yV o4 y1 5, yV o4 y0 5],
  [yV o4 y0 5, yV o4 y3 5],
  [yV (.agg (wR 5 4)) [.box 62 ([(.mp 1)] ++ wR 0 3), .mp [] [o3], .box 3 [o4]] 9],
  [yE (.exit 0) [(7,(.arr 0)),(4,(rA 4)),(6,(rA 5))] [.arr 27 4 (.sym 0), .box 62 ([(.mp 2)] ++ wR 1 3), .mp [] [o4], .box 3 [o5], b27_4 6, b27_4 10] 14],
  [yV (.agg (wR 5 4)) [.box 62 [(.mp 1),(.arr 2),o0,o1], .mp [] [o2], .arr 3 1 (.sym 3), .box 3 [o4]] 9],
  [yE (.exit 0) [(7,(.arr 0)),(4,(rA 5)),(6,(rA 6))] [.arr 27 4 (.sym 0), .box 62 [(.mp 2),(.arr 3),o1,o2], .mp [] [o3], .arr 3 1 (.sym 4), .box 3 [o5], b27_4 6, b27_4 10] 14],
  [yV (.agg (wR 4 4)) y1 8],
  [yE .ret [(4,(rA 3))] [b27_4 0, .box 62 ([(.mp 2)] ++ wR 4 3), .mp [] [o7], b27_4 8] 12, yE (.exit 0) [(3,(rA 0)),(4,(rA 3))] [b27_4 0, .box 62 ([(.mp 2)] ++ wR 4 3), .mp [] [o7], b27_4 8] 12],
  [yV o4 y1 5],
  [yV o4 y1 5],
  [yV (.tup []) y0 4],
  [yV o4 y1 5, yV o4 y0 5],
  [yE .ret [(6,o4)] y1 5, yE .ret [(6,o4)] y0 5, yE (.exit 0) [] y1 4, yE (.exit 0) [] y0 4],
  [yV (.agg (wR 4 4)) y0 8],
  [yE .ret [(4,(rA 4))] y11 12, yE (.exit 0) [(3,(rA 0)),(4,(rA 4))] y11 12],
  [yV o4 y0 5],
  [yV o4 y0 5],
  [yV (.tup []) y3 4],
  [yV o4 y0 5, yV o4 y3 5],
  [yE .ret [(6,o4)] y0 5, yE .ret [(6,o4)] y3 5, yE (.exit 0) [] y0 4, yE (.exit 0) [] y3 4],
  [yV o5 y4 6],
  [yV o5 y2 6],
  [yV o5 y4 6],
  [yE .ret [(4,o5)] y4 6, yE (.exit 0) [] y4 5],
  [yV o5 y2 6],
  [yE .ret [(4,o5)] y2 6, yE (.exit 0) [] y2 5],
  [yV o5 y4 6],
  [yV o5 y2 6],
  [yU o0 1],
  [yU (.tup []) 0],
  [yV (.tup []) [.arr 3 1 (.sym 0)] 1],
  [yU o0 1],
  [yV o0 [.dead] 1],
  [yU (.tup (wR 0 3)) 3],
  [yU o0 1]]
def etL : List Et := [k2 g3, k5 g3b0a, k6 g3b0b, k7 g3b2a, k1 g6, k4 g6b0a, k4 g20, k3 g20b0a, k5 g21, k5 g33, k7 g33b0a, k4 g22, k8 g8, k2 g25, k3 g25b0a, k2 g36, k2 g45, k4 g45b0a, k4 g34a, k3 g34ab0a, k4 g34ab0b, k4 g34ab0c, k4 g34ab0d, k4 g35a, k5 g34b, k4 g34bb0a, k4 g34bb0b, k5 g35b, k1 g7, k5 g7b0a, k6 g7b0b, k7 g7b0c, k6 g7b0d, k5 g7b2a, k6 g7b2b, k6 g7b2c, k7 g7b2d, k0 g9, k11 g12a, k4 g12ab0a, k8 g12ab0b, k12 g12b, k9 g12bb0a, k7 g15a, k8 g15b, k11 g26a, k12 g26b, k8 g31a, k12 g31ab0a, k9 g31b, k13 g31bb0a, k7 g17a, k10 g17ab0a, k3 g39a, k8 g40a, k8 g41a, k5 g42a, k7 g42ab0a, k8 g42ab0b, k8 g17b, k11 g17bb0a, k4 g39b, k9 g40b, k9 g41b, k6 g42b, k8 g42bb0a, k8 g42bb0b, k5 g57a, k6 g57b, k5 g65a, k7 g65ab0a, k6 g65b, k8 g65bb0a, k8 g58a, k9 g58b, .ext awkP, .ext srtP, .ext srtA, .ext cmpP, .ext cmpA, etNo, etNo]
def SS : Nat → List Shape := nth [] shT
def EE : Nat → Ent := nth dEn enL
def TT : Nat → Et := nth etNo etL
noncomputable abbrev ev : Q → Option Rs := Evl PG EE TT
abbrev RK (k : Nat) : Prop := RuleOk PG SS EE TT k
abbrev q3 (a b : PV) : Q := ⟨0, [a, b]⟩
abbrev q3b0a (a b c d e : PV) : Q := ⟨1, [a, b, c, d, e]⟩
abbrev q3b0b (a b c : PV) (d : List (List PV)) (e f : PV) : Q := ⟨2, [a, b, c, .rows d, e, f]⟩
abbrev q3b2a (a b c d e f g : PV) : Q := ⟨3, [a, b, c, d, e, f, g]⟩
abbrev q6 (a : PV) : Q := ⟨4, [a]⟩
abbrev q6b0a (a b c d : PV) : Q := ⟨5, [a, b, c, d]⟩
abbrev q20 (a b c d : PV) : Q := ⟨6, [a, b, c, d]⟩
abbrev q20b0a (a b c : PV) : Q := ⟨7, [a, b, c]⟩
abbrev q21 (a b c d e : PV) : Q := ⟨8, [a, b, c, d, e]⟩
abbrev q33 (a b c d e : PV) : Q := ⟨9, [a, b, c, d, e]⟩
abbrev q33b0a (a b c d e f g : PV) : Q := ⟨10, [a, b, c, d, e, f, g]⟩
abbrev q22 (a b c d : PV) : Q := ⟨11, [a, b, c, d]⟩
abbrev q8 (a b c d e f g h : PV) : Q := ⟨12, [a, b, c, d, e, f, g, h]⟩
abbrev q25 (a b : PV) : Q := ⟨13, [a, b]⟩
abbrev q25b0a (a b c : PV) : Q := ⟨14, [a, b, c]⟩
abbrev q36 (a b : PV) : Q := ⟨15, [a, b]⟩
abbrev q45 (a b : PV) : Q := ⟨16, [a, b]⟩
abbrev q45b0a (a b c d : PV) : Q := ⟨17, [a, b, c, d]⟩
abbrev q34a (a b c d : PV) : Q := ⟨18, [a, b, c, d]⟩
abbrev q34ab0a (a b c : PV) : Q := ⟨19, [a, b, c]⟩
abbrev q34ab0b (a b c : PV) (d : List (List PV)) : Q := ⟨20, [a, b, c, .rows d]⟩
abbrev q34ab0c (a b c : PV) (d : List (List PV)) : Q := ⟨21, [a, b, c, .rows d]⟩
abbrev q34ab0d (a b c : PV) (d : List (List PV)) : Q := ⟨22, [a, b, c, .rows d]⟩
abbrev q35a (a b c d : PV) : Q := ⟨23, [a, b, c, d]⟩
abbrev q34b (a b c d : PV) (e : List (List PV)) : Q := ⟨24, [a, b, c, d, .rows e]⟩
abbrev q34bb0a (a b c : PV) (d : List (List PV)) : Q := ⟨25, [a, b, c, .rows d]⟩
abbrev q34bb0b (a b c : PV) (d : List (List PV)) : Q := ⟨26, [a, b, c, .rows d]⟩
abbrev q35b (a b c d : PV) (e : List (List PV)) : Q := ⟨27, [a, b, c, d, .rows e]⟩
abbrev q7 (a : PV) : Q := ⟨28, [a]⟩
abbrev q7b0a (a b c d e : PV) : Q := ⟨29, [a, b, c, d, e]⟩
abbrev q7b0b (a b c d e f : PV) : Q := ⟨30, [a, b, c, d, e, f]⟩
abbrev q7b0c (a b c d e f g : PV) : Q := ⟨31, [a, b, c, d, e, f, g]⟩
abbrev q7b0d (a b c d e f : PV) : Q := ⟨32, [a, b, c, d, e, f]⟩
abbrev q7b2a (a b c d e : PV) : Q := ⟨33, [a, b, c, d, e]⟩
abbrev q7b2b (a b c d e f : PV) : Q := ⟨34, [a, b, c, d, e, f]⟩
abbrev q7b2c (a b c : PV) (d : List (List PV)) (e f : PV) : Q := ⟨35, [a, b, c, .rows d, e, f]⟩
abbrev q7b2d (a b c : PV) (d : List (List PV)) (e f g : PV) : Q := ⟨36, [a, b, c, .rows d, e, f, g]⟩
abbrev q9 : Q := ⟨37, []⟩
abbrev q12a (a b c d e f g h i j k : PV) : Q := ⟨38, [a, b, c, d, e, f, g, h, i, j, k]⟩
abbrev q12ab0a (a b c d : PV) : Q := ⟨39, [a, b, c, d]⟩
abbrev q12ab0b (a b c d e f g h : PV) : Q := ⟨40, [a, b, c, d, e, f, g, h]⟩
abbrev q12b (a b c d e f g h i j k l : PV) : Q := ⟨41, [a, b, c, d, e, f, g, h, i, j, k, l]⟩
abbrev q12bb0a (a b c d e f g h i : PV) : Q := ⟨42, [a, b, c, d, e, f, g, h, i]⟩
abbrev q15a (a b c d e f g : PV) : Q := ⟨43, [a, b, c, d, e, f, g]⟩
abbrev q15b (a b c d e f g h : PV) : Q := ⟨44, [a, b, c, d, e, f, g, h]⟩
abbrev q26a (a b c d e f g h i j k : PV) : Q := ⟨45, [a, b, c, d, e, f, g, h, i, j, k]⟩
abbrev q26b (a b c d e f g h i j k l : PV) : Q := ⟨46, [a, b, c, d, e, f, g, h, i, j, k, l]⟩
abbrev q31a (a b c d e f g h : PV) : Q := ⟨47, [a, b, c, d, e, f, g, h]⟩
abbrev q31ab0a (a b c d e f g h i j k l : PV) : Q := ⟨48, [a, b, c, d, e, f, g, h, i, j, k, l]⟩
abbrev q31b (a b c d e f g h i : PV) : Q := ⟨49, [a, b, c, d, e, f, g, h, i]⟩
abbrev q31bb0a (a b c d e f g h i j k l m : PV) : Q := ⟨50, [a, b, c, d, e, f, g, h, i, j, k, l, m]⟩
abbrev q17a (a b c d e f g : PV) : Q := ⟨51, [a, b, c, d, e, f, g]⟩
abbrev q17ab0a (a b c d e f g h i j : PV) : Q := ⟨52, [a, b, c, d, e, f, g, h, i, j]⟩
abbrev q39a (a b c : PV) : Q := ⟨53, [a, b, c]⟩
abbrev q40a (a b c d e f g h : PV) : Q := ⟨54, [a, b, c, d, e, f, g, h]⟩
abbrev q41a (a b c d e f g h : PV) : Q := ⟨55, [a, b, c, d, e, f, g, h]⟩
abbrev q42a (a b c d e : PV) : Q := ⟨56, [a, b, c, d, e]⟩
abbrev q42ab0a (a b c d e f g : PV) : Q := ⟨57, [a, b, c, d, e, f, g]⟩
abbrev q42ab0b (a b c d e f g h : PV) : Q := ⟨58, [a, b, c, d, e, f, g, h]⟩
abbrev q17b (a b c d e f g h : PV) : Q := ⟨59, [a, b, c, d, e, f, g, h]⟩
abbrev q17bb0a (a b c d e f g h i j k : PV) : Q := ⟨60, [a, b, c, d, e, f, g, h, i, j, k]⟩
abbrev q39b (a b c d : PV) : Q := ⟨61, [a, b, c, d]⟩
abbrev q40b (a b c d e f g h i : PV) : Q := ⟨62, [a, b, c, d, e, f, g, h, i]⟩
abbrev q41b (a b c d e f g h i : PV) : Q := ⟨63, [a, b, c, d, e, f, g, h, i]⟩
abbrev q42b (a b c d e f : PV) : Q := ⟨64, [a, b, c, d, e, f]⟩
abbrev q42bb0a (a b c d e f g h : PV) : Q := ⟨65, [a, b, c, d, e, f, g, h]⟩
abbrev q42bb0b (a b c d e f g h : PV) : Q := ⟨66, [a, b, c, d, e, f, g, h]⟩
abbrev q57a (a b c d e : PV) : Q := ⟨67, [a, b, c, d, e]⟩
abbrev q57b (a b c d e f : PV) : Q := ⟨68, [a, b, c, d, e, f]⟩
abbrev q65a (a b c d e : PV) : Q := ⟨69, [a, b, c, d, e]⟩
abbrev q65ab0a (a b c d e f g : PV) : Q := ⟨70, [a, b, c, d, e, f, g]⟩
abbrev q65b (a b c d e f : PV) : Q := ⟨71, [a, b, c, d, e, f]⟩
abbrev q65bb0a (a b c d e f g h : PV) : Q := ⟨72, [a, b, c, d, e, f, g, h]⟩
abbrev q58a (a b c d e f g h : PV) : Q := ⟨73, [a, b, c, d, e, f, g, h]⟩
abbrev q58b (a b c d e f g h i : PV) : Q := ⟨74, [a, b, c, d, e, f, g, h, i]⟩
abbrev q5 : Q := ⟨75, []⟩
abbrev q23 (a : PV) : Q := ⟨76, [a]⟩
abbrev q23a (a : PV) : Q := ⟨77, [a]⟩
abbrev q24 (a : PV) : Q := ⟨78, [a]⟩
abbrev q24a (a : PV) : Q := ⟨79, [a]⟩
abbrev q7w (a : PV) : Q := ⟨80, [a]⟩
abbrev q22w (a b c d : PV) : Q := ⟨81, [a, b, c, d]⟩
end Go.Proofs.Ytnepapfndihalaa
