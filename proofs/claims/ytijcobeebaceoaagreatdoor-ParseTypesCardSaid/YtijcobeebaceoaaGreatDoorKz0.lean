/- What the entries ask and mean, written once. Printed by hq.py. -/
import Derived.Test.YtijcobeebaceoaaGreatDoorBc
import Derived.Test.YtijcobeebaceoaaGreatDoorProg
namespace Go.Proofs.YtijcobeebaceoaaGreatDoor
open Go.RowKit
noncomputable abbrev PG : Program := Tryz.prog
abbrev bt : PV := .lit (.bool true)
abbrev bf : PV := .lit (.bool false)
abbrev nS : PV := .lit (.slice none 0 0)
abbrev e0 : PV := .lit (.string ⟨#[]⟩)
abbrev i0 : PV := .lit (.int .i64 0)
abbrev i1 : PV := .lit (.int .i64 1)
abbrev i2 : PV := .lit (.int .i64 2)
abbrev i3 : PV := .lit (.int .i64 3)
abbrev i4 : PV := .lit (.int .i64 4)
abbrev i5 : PV := .lit (.int .i64 5)
abbrev i6 : PV := .lit (.int .i64 6)
abbrev i7 : PV := .lit (.int .i64 7)
abbrev i8 : PV := .lit (.int .i64 8)
abbrev i9 : PV := .lit (.int .i64 9)
abbrev z0 : PV := .lit (.string ⟨#[45, 62]⟩)
abbrev z1 : PV := .lit (.string ⟨#[41]⟩)
abbrev z2 : PV := .lit (.string ⟨#[85, 110, 105, 116]⟩)
abbrev z3 : PV := .lit (.string ⟨#[40]⟩)
abbrev z4 : PV := .lit (.string ⟨#[95]⟩)
abbrev z5 : PV := .lit (.string ⟨#[99, 97, 115, 101]⟩)
abbrev z6 : PV := .lit (.string ⟨#[110, 116, 34, 92]⟩)
abbrev z7 : PV := .lit (.string ⟨#[33, 36, 37, 38, 42, 43, 46, 47, 60, 61, 62, 63, 64, 94, 124, 126, 58, 45]⟩)
abbrev z8 : PV := .lit (.string ⟨#[44]⟩)
abbrev z9 : PV := .lit (.string ⟨#[59]⟩)
abbrev z10 : PV := .lit (.string ⟨#[92]⟩)
abbrev z11 : PV := .lit (.string ⟨#[61]⟩)
abbrev z12 : PV := .lit (.string ⟨#[124]⟩)
abbrev z13 : PV := .lit (.string ⟨#[58]⟩)
abbrev z14 : PV := .lit (.string ⟨#[100, 97, 116, 97]⟩)
abbrev z15 : PV := .lit (.string ⟨#[99, 108, 97, 115, 115]⟩)
abbrev z16 : PV := .lit (.string ⟨#[105, 110, 115, 116, 97, 110, 99, 101]⟩)
abbrev z17 : PV := .lit (.string ⟨#[102, 114, 111, 109]⟩)
abbrev z18 : PV := .lit (.string ⟨#[119, 104, 101, 114, 101]⟩)
abbrev z19 : PV := .lit (.string ⟨#[101, 110, 100]⟩)
abbrev z20 : PV := .lit (.string ⟨#[100, 101, 114, 105, 118, 105, 110, 103]⟩)
abbrev z21 : PV := .lit (.string ⟨#[100, 101, 102]⟩)
abbrev z22 : PV := .lit (.string ⟨#[108, 101, 116]⟩)
abbrev z23 : PV := .lit (.string ⟨#[114, 101, 99]⟩)
abbrev z24 : PV := .lit (.string ⟨#[97, 110, 100]⟩)
abbrev z25 : PV := .lit (.string ⟨#[105, 110]⟩)
abbrev z26 : PV := .lit (.string ⟨#[111, 102]⟩)
abbrev z27 : PV := .lit (.string ⟨#[105, 102]⟩)
abbrev z28 : PV := .lit (.string ⟨#[116, 104, 101, 110]⟩)
abbrev z29 : PV := .lit (.string ⟨#[101, 108, 115, 101]⟩)
abbrev nL : PV := .lit (.slice none 0 0)
noncomputable def cI (s : List PV) (v : PV) (k : List PV → Res) : Res := consK .fail s fun y r => isK .fail v y (k r)
def cC (s : List PV) (k : PV → List PV → Res) : Res := consK .fail s k
def cN (s : List PV) (k : Res) : Res := nilK .fail s k
noncomputable def cL : List PV → List PV → (List PV → Res) → Res
  | [], s, k => k s
  | v :: vs, s, k => cI s v fun s => cL vs s k
@[simp] theorem cI_cons (y : PV) (r : List PV) (v : PV) (k : List PV → Res) : cI (y :: r) v k = isK .fail v y (k r) := rfl
@[simp] theorem cC_cons (y : PV) (r : List PV) (k : PV → List PV → Res) : cC (y :: r) k = k y r := rfl
@[simp] theorem cI_nil (v : PV) (k : List PV → Res) : cI [] v k = .fail := rfl
@[simp] theorem cC_nil (k : PV → List PV → Res) : cC [] k = .fail := rfl
@[simp] theorem cN_nil (k : Res) : cN [] k = k := rfl
@[simp] theorem cN_cons (y : PV) (r : List PV) (k : Res) : cN (y :: r) k = .fail := rfl
@[simp] theorem cL_nil (s : List PV) (k : List PV → Res) : cL [] s k = k s := rfl
@[simp] theorem cL_cons (v : PV) (vs : List PV) (y : PV) (r : List PV) (k : List PV → Res) : cL (v :: vs) (y :: r) k = isK .fail v y (cL vs r k) := rfl
@[simp] theorem cL_out (v : PV) (vs : List PV) (k : List PV → Res) : cL (v :: vs) [] k = .fail := rfl
@[simp] noncomputable def bI (b : BinOp) (t : TypeId) (u v r : PV) (k : Res) : Res := binK PG .fail b t (.pv u) (.pv v) fun w => pvK .fail w fun y => isK .fail r y k
@[simp] noncomputable def bV (b : BinOp) (t : TypeId) (u v : PV) (k : PV → Res) : Res := binK PG .fail b t (.pv u) (.pv v) fun w => pvK .fail w k
@[simp] noncomputable def lV (t : TypeId) (u : PV) (k : PV → Res) : Res := lenK PG .fail t (.pv u) fun w => pvK .fail w k
@[simp] noncomputable def xV (t : TypeId) (u i : PV) (k : List PV → Res) : Res := idxK PG .fail t (.pv u) (.pv i) fun w => cptrK .fail w k
@[simp] noncomputable def sV (t : TypeId) (u i : PV) (k : PV → Res) : Res := slcK PG .fail t (.pv u) none (some (.pv i)) fun w => pvK .fail w k
@[simp] noncomputable def bA (b : BinOp) (t : TypeId) (u v : PV) (k1 k2 : Res) : Res := Res.alt (bI b t u v (.lit (.bool true)) k1) (bI b t u v (.lit (.bool false)) k2)
@[simp] noncomputable def cA (o : Option Rs) (m n : Nat) (k1 k2 : List PV → Res) : Res := Res.alt (callK o m k1) (callK o n k2)

/-- What a program may be read as. -/
class R (T : Type) where
  U : Type
  TW : BinOp → TypeId → PV → PV → T → T → T
  E3 : PV → PV → T → T → T
  L3 : PV → PV → T → T → T
  N3 : PV → PV → T → T → T
  G3 : PV → PV → T → T → T
  H3 : PV → PV → T → T → T
  K3 : PV → PV → T → T → T
  E5 : PV → PV → T → T → T
  N9 : PV → PV → T → T → T
  E9 : PV → PV → T → T → T
  B : BinOp → TypeId → PV → PV → (PV → T) → T
  A3 : PV → PV → (PV → T) → T
  S3 : PV → PV → (PV → T) → T
  L : TypeId → PV → (PV → T) → T
  I : TypeId → PV → PV → (PV → T) → T
  V : TypeId → TypeId → PV → (PV → T) → T
  S : TypeId → PV → Option AV → Option AV → (PV → T) → T
  P : TypeId → PV → PV → (PV → T) → T
  X : TypeId → PV → PV → U → T
  J : T → T → T
  C : Nat → List PV → Nat → U → T
  C0 : Nat → List PV → U → T
  D : Nat → List PV → Nat → Nat → U → U → T
  Q0 : Nat → List PV → T → T → T
  Q5 : Nat → List PV → (PV → PV → PV → PV → PV → T) → (PV → PV → PV → PV → PV → T) → T
  O : Nat → List PV → T
  O0 : List PV → T
  Y : Nat → List PV → T
  z : T → U
  ms : List PV → U → U
  mz : List PV → T → U
  v1 : (PV → U) → U
  w1 : (PV → T) → U
@[simp ↓] abbrev R.v2 {T : Type} [R T] (k : PV → PV → R.U T) : R.U T := R.v1 fun a => R.v1 (k a)
@[simp ↓] abbrev R.v3 {T : Type} [R T] (k : PV → PV → PV → R.U T) : R.U T := R.v1 fun a => R.v2 (k a)
@[simp ↓] abbrev R.v4 {T : Type} [R T] (k : PV → PV → PV → PV → R.U T) : R.U T := R.v1 fun a => R.v3 (k a)
@[simp ↓] abbrev R.v5 {T : Type} [R T] (k : PV → PV → PV → PV → PV → R.U T) : R.U T := R.v1 fun a => R.v4 (k a)
@[simp ↓] abbrev R.v6 {T : Type} [R T] (k : PV → PV → PV → PV → PV → PV → R.U T) : R.U T := R.v1 fun a => R.v5 (k a)
@[simp ↓] abbrev R.v7 {T : Type} [R T] (k : PV → PV → PV → PV → PV → PV → PV → R.U T) : R.U T := R.v1 fun a => R.v6 (k a)
@[simp ↓] abbrev R.v8 {T : Type} [R T] (k : PV → PV → PV → PV → PV → PV → PV → PV → R.U T) : R.U T := R.v1 fun a => R.v7 (k a)
@[simp ↓] abbrev R.v9 {T : Type} [R T] (k : PV → PV → PV → PV → PV → PV → PV → PV → PV → R.U T) : R.U T := R.v1 fun a => R.v8 (k a)
@[simp ↓] abbrev R.w2 {T : Type} [R T] (k : PV → PV → T) : R.U T := R.v1 fun a => R.w1 (k a)
@[simp ↓] abbrev R.w3 {T : Type} [R T] (k : PV → PV → PV → T) : R.U T := R.v1 fun a => R.w2 (k a)
@[simp ↓] abbrev R.w4 {T : Type} [R T] (k : PV → PV → PV → PV → T) : R.U T := R.v1 fun a => R.w3 (k a)
@[simp ↓] abbrev R.w5 {T : Type} [R T] (k : PV → PV → PV → PV → PV → T) : R.U T := R.v1 fun a => R.w4 (k a)
@[simp ↓] abbrev R.w6 {T : Type} [R T] (k : PV → PV → PV → PV → PV → PV → T) : R.U T := R.v1 fun a => R.w5 (k a)
@[simp ↓] abbrev R.w7 {T : Type} [R T] (k : PV → PV → PV → PV → PV → PV → PV → T) : R.U T := R.v1 fun a => R.w6 (k a)
@[simp ↓] abbrev R.w8 {T : Type} [R T] (k : PV → PV → PV → PV → PV → PV → PV → PV → T) : R.U T := R.v1 fun a => R.w7 (k a)
@[simp ↓] abbrev R.w9 {T : Type} [R T] (k : PV → PV → PV → PV → PV → PV → PV → PV → PV → T) : R.U T := R.v1 fun a => R.w8 (k a)
abbrev Rf : Type := Nat → Et
abbrev Ru : Type := Nat → List PV × Et
abbrev Sm : Type := (Q → Option Rs) → Res
abbrev Su : Type := (Q → Option Rs) → List PV → Res
instance : R Rf where
  U := Ru
  TW := fun b t u v x y n => .alt (.say (.bin b t (.pv u) (.pv v) (.pv bt)) (x n)) (.say (.bin b t (.pv u) (.pv v) (.pv bf)) (y n))
  E3 := fun u v x y n => .alt (.say (.bin .eql 3 (.pv u) (.pv v) (.pv bt)) (x n)) (.say (.bin .eql 3 (.pv u) (.pv v) (.pv bf)) (y n))
  L3 := fun u v x y n => .alt (.say (.bin .lss 3 (.pv u) (.pv v) (.pv bt)) (x n)) (.say (.bin .lss 3 (.pv u) (.pv v) (.pv bf)) (y n))
  N3 := fun u v x y n => .alt (.say (.bin .neq 3 (.pv u) (.pv v) (.pv bt)) (x n)) (.say (.bin .neq 3 (.pv u) (.pv v) (.pv bf)) (y n))
  G3 := fun u v x y n => .alt (.say (.bin .gtr 3 (.pv u) (.pv v) (.pv bt)) (x n)) (.say (.bin .gtr 3 (.pv u) (.pv v) (.pv bf)) (y n))
  H3 := fun u v x y n => .alt (.say (.bin .geq 3 (.pv u) (.pv v) (.pv bt)) (x n)) (.say (.bin .geq 3 (.pv u) (.pv v) (.pv bf)) (y n))
  K3 := fun u v x y n => .alt (.say (.bin .leq 3 (.pv u) (.pv v) (.pv bt)) (x n)) (.say (.bin .leq 3 (.pv u) (.pv v) (.pv bf)) (y n))
  E5 := fun u v x y n => .alt (.say (.bin .eql 5 (.pv u) (.pv v) (.pv bt)) (x n)) (.say (.bin .eql 5 (.pv u) (.pv v) (.pv bf)) (y n))
  N9 := fun u v x y n => .alt (.say (.bin .neq 9 (.pv u) (.pv v) (.pv bt)) (x n)) (.say (.bin .neq 9 (.pv u) (.pv v) (.pv bf)) (y n))
  E9 := fun u v x y n => .alt (.say (.bin .eql 9 (.pv u) (.pv v) (.pv bt)) (x n)) (.say (.bin .eql 9 (.pv u) (.pv v) (.pv bf)) (y n))
  B := fun b t u v k n => .say (.bin b t (.pv u) (.pv v) (.pv (.sym n))) (k (.sym n) (n + 1))
  A3 := fun u v k n => .say (.bin .add 3 (.pv u) (.pv v) (.pv (.sym n))) (k (.sym n) (n + 1))
  S3 := fun u v k n => .say (.bin .sub 3 (.pv u) (.pv v) (.pv (.sym n))) (k (.sym n) (n + 1))
  L := fun t u k n => .say (.len t (.pv u) (.pv (.sym n))) (k (.sym n) (n + 1))
  I := fun t u i k n => .say (.ind t (.pv u) (.pv i) (.pv (.sym n))) (k (.sym n) (n + 1))
  V := fun s t u k n => .say (.conv s t (.pv u) (.pv (.sym n))) (k (.sym n) (n + 1))
  S := fun t u a b k n => .say (.slc t (.pv u) a b (.pv (.sym n))) (k (.sym n) (n + 1))
  P := fun t u x k n => .say (.app t (.pv u) (.pv x) n) (k (.sym n) (n + 1))
  X := fun t u i k n => .say (.idx t (.pv u) (.pv i) (.cptr (k n).1)) (k n).2
  J := fun x y n => .alt (x n) (y n)
  C := fun q p s k n => .call q p s (k n).1 (k n).2
  C0 := fun q p k n => .call q p 0 (k n).1 (k n).2
  D := fun q p s t k l n => .alt (.call q p s (k n).1 (k n).2) (.call q p t (l n).1 (l n).2)
  Q0 := fun q p x y n => .alt (.call q p 0 [bt] (x n)) (.call q p 0 [bf] (y n))
  Q5 := fun q p x y n => .alt (.call q p 0 [.sym n, .sym (n + 1), .sym (n + 2), .sym (n + 3), .sym (n + 4), bt] (x (.sym n) (.sym (n + 1)) (.sym (n + 2)) (.sym (n + 3)) (.sym (n + 4)) (n + 5))) (.call q p 0 [.sym n, .sym (n + 1), .sym (n + 2), .sym (n + 3), .sym (n + 4), bf] (y (.sym n) (.sym (n + 1)) (.sym (n + 2)) (.sym (n + 3)) (.sym (n + 4)) (n + 5)))
  O := fun s p n => .out s p
  O0 := fun p n => .out 0 p
  Y := fun q p n => .goto q p
  z := fun x n => ([], x n)
  ms := fun p k n => (p ++ (k n).1, (k n).2)
  mz := fun p x n => (p, x n)
  v1 := fun k n => ([.sym n] ++ (k (.sym n) (n + 1)).1, (k (.sym n) (n + 1)).2)
  w1 := fun k n => ([.sym n], k (.sym n) (n + 1))
noncomputable instance : R Sm where
  U := Su
  TW := fun b t u v x y O => bA b t u v (x O) (y O)
  E3 := fun u v x y O => bA .eql 3 u v (x O) (y O)
  L3 := fun u v x y O => bA .lss 3 u v (x O) (y O)
  N3 := fun u v x y O => bA .neq 3 u v (x O) (y O)
  G3 := fun u v x y O => bA .gtr 3 u v (x O) (y O)
  H3 := fun u v x y O => bA .geq 3 u v (x O) (y O)
  K3 := fun u v x y O => bA .leq 3 u v (x O) (y O)
  E5 := fun u v x y O => bA .eql 5 u v (x O) (y O)
  N9 := fun u v x y O => bA .neq 9 u v (x O) (y O)
  E9 := fun u v x y O => bA .eql 9 u v (x O) (y O)
  B := fun b t u v k O => bV b t u v fun y => k y O
  A3 := fun u v k O => bV .add 3 u v fun y => k y O
  S3 := fun u v k O => bV .sub 3 u v fun y => k y O
  L := fun t u k O => lV t u fun y => k y O
  I := fun t u i k O => indK PG .fail t (.pv u) (.pv i) fun w => pvK .fail w fun y => k y O
  V := fun s t u k O => convK PG .fail s t (.pv u) fun w => pvK .fail w fun y => k y O
  S := fun t u a b k O => slcK PG .fail t (.pv u) a b fun w => pvK .fail w fun y => k y O
  P := fun t u x k O => appK PG .fail t (.pv u) (.pv x) fun y => k y O
  X := fun t u i k O => xV t u i fun s => k O s
  J := fun x y O => Res.alt (x O) (y O)
  C := fun q p s k O => callK (O ⟨q, p⟩) s fun s => k O s
  C0 := fun q p k O => callK (O ⟨q, p⟩) 0 fun s => k O s
  D := fun q p s t k l O => cA (O ⟨q, p⟩) s t (fun s => k O s) fun s => l O s
  Q0 := fun q p x y O => cA (O ⟨q, p⟩) 0 0 (fun s => cI s bt fun s => cN s (x O)) fun s => cI s bf fun s => cN s (y O)
  Q5 := fun q p x y O => cA (O ⟨q, p⟩) 0 0 (fun s => cC s fun a s => cC s fun b s => cC s fun c s => cC s fun d s => cC s fun e s => cI s bt fun s => cN s (x a b c d e O)) fun s => cC s fun a s => cC s fun b s => cC s fun c s => cC s fun d s => cC s fun e s => cI s bf fun s => cN s (y a b c d e O)
  O := fun s p O => .ok (s, p)
  O0 := fun p O => .ok (0, p)
  Y := fun q p O => passK (O ⟨q, p⟩)
  z := fun x O s => cN s (x O)
  ms := fun p k O s => cL p s (k O)
  mz := fun p x O s => cL p s fun s => cN s (x O)
  v1 := fun k O s => cC s fun av s => k av O s
  w1 := fun k O s => cC s fun av s => cN s (k av O)
@[simp ↓] theorem m_TW {b : BinOp} {t : TypeId} {u v : PV} {x y : Sm} {O} : R.TW (T := Sm) b t u v x y O = bA b t u v (x O) (y O) := rfl
@[simp ↓] theorem m_E3 {u v : PV} {x y : Sm} {O} : R.E3 (T := Sm) u v x y O = bA .eql 3 u v (x O) (y O) := rfl
@[simp ↓] theorem m_L3 {u v : PV} {x y : Sm} {O} : R.L3 (T := Sm) u v x y O = bA .lss 3 u v (x O) (y O) := rfl
@[simp ↓] theorem m_N3 {u v : PV} {x y : Sm} {O} : R.N3 (T := Sm) u v x y O = bA .neq 3 u v (x O) (y O) := rfl
@[simp ↓] theorem m_G3 {u v : PV} {x y : Sm} {O} : R.G3 (T := Sm) u v x y O = bA .gtr 3 u v (x O) (y O) := rfl
@[simp ↓] theorem m_H3 {u v : PV} {x y : Sm} {O} : R.H3 (T := Sm) u v x y O = bA .geq 3 u v (x O) (y O) := rfl
@[simp ↓] theorem m_K3 {u v : PV} {x y : Sm} {O} : R.K3 (T := Sm) u v x y O = bA .leq 3 u v (x O) (y O) := rfl
@[simp ↓] theorem m_E5 {u v : PV} {x y : Sm} {O} : R.E5 (T := Sm) u v x y O = bA .eql 5 u v (x O) (y O) := rfl
@[simp ↓] theorem m_N9 {u v : PV} {x y : Sm} {O} : R.N9 (T := Sm) u v x y O = bA .neq 9 u v (x O) (y O) := rfl
@[simp ↓] theorem m_E9 {u v : PV} {x y : Sm} {O} : R.E9 (T := Sm) u v x y O = bA .eql 9 u v (x O) (y O) := rfl
@[simp ↓] theorem m_B {b : BinOp} {t : TypeId} {u v : PV} {k : PV → Sm} {O} : R.B (T := Sm) b t u v k O = bV b t u v fun y => k y O := rfl
@[simp ↓] theorem m_A3 {u v : PV} {k : PV → Sm} {O} : R.A3 (T := Sm) u v k O = bV .add 3 u v fun y => k y O := rfl
@[simp ↓] theorem m_S3 {u v : PV} {k : PV → Sm} {O} : R.S3 (T := Sm) u v k O = bV .sub 3 u v fun y => k y O := rfl
@[simp ↓] theorem m_L {t : TypeId} {u : PV} {k : PV → Sm} {O} : R.L (T := Sm) t u k O = lV t u fun y => k y O := rfl
@[simp ↓] theorem m_I {t : TypeId} {u i : PV} {k : PV → Sm} {O} : R.I (T := Sm) t u i k O = indK PG .fail t (.pv u) (.pv i) fun w => pvK .fail w fun y => k y O := rfl
@[simp ↓] theorem m_V {s t : TypeId} {u : PV} {k : PV → Sm} {O} : R.V (T := Sm) s t u k O = convK PG .fail s t (.pv u) fun w => pvK .fail w fun y => k y O := rfl
@[simp ↓] theorem m_S {t : TypeId} {u : PV} {a b : Option AV} {k : PV → Sm} {O} : R.S (T := Sm) t u a b k O = slcK PG .fail t (.pv u) a b fun w => pvK .fail w fun y => k y O := rfl
@[simp ↓] theorem m_P {t : TypeId} {u x : PV} {k : PV → Sm} {O} : R.P (T := Sm) t u x k O = appK PG .fail t (.pv u) (.pv x) fun y => k y O := rfl
@[simp ↓] theorem m_X {t : TypeId} {u i : PV} {k : Su} {O} : R.X (T := Sm) t u i k O = xV t u i fun s => k O s := rfl
@[simp ↓] theorem m_J {x y : Sm} {O} : R.J (T := Sm) x y O = Res.alt (x O) (y O) := rfl
@[simp ↓] theorem m_C {q : Nat} {p : List PV} {s : Nat} {k : Su} {O} : R.C (T := Sm) q p s k O = callK (O ⟨q, p⟩) s fun s => k O s := rfl
@[simp ↓] theorem m_C0 {q : Nat} {p : List PV} {k : Su} {O} : R.C0 (T := Sm) q p k O = callK (O ⟨q, p⟩) 0 fun s => k O s := rfl
@[simp ↓] theorem m_D {q : Nat} {p : List PV} {s t : Nat} {k l : Su} {O} : R.D (T := Sm) q p s t k l O = cA (O ⟨q, p⟩) s t (fun s => k O s) fun s => l O s := rfl
@[simp ↓] theorem m_Q0 {q : Nat} {p : List PV} {x y : Sm} {O} : R.Q0 (T := Sm) q p x y O = cA (O ⟨q, p⟩) 0 0 (fun s => cI s bt fun s => cN s (x O)) fun s => cI s bf fun s => cN s (y O) := rfl
@[simp ↓] theorem m_Q5 {q : Nat} {p : List PV} {x y : PV → PV → PV → PV → PV → Sm} {O} : R.Q5 (T := Sm) q p x y O = cA (O ⟨q, p⟩) 0 0 (fun s => cC s fun a s => cC s fun b s => cC s fun c s => cC s fun d s => cC s fun e s => cI s bt fun s => cN s (x a b c d e O)) fun s => cC s fun a s => cC s fun b s => cC s fun c s => cC s fun d s => cC s fun e s => cI s bf fun s => cN s (y a b c d e O) := rfl
@[simp ↓] theorem m_O {s : Nat} {p : List PV} {O} : R.O (T := Sm) s p O = .ok (s, p) := rfl
@[simp ↓] theorem m_O0 {p : List PV} {O} : R.O0 (T := Sm) p O = .ok (0, p) := rfl
@[simp ↓] theorem m_Y {q : Nat} {p : List PV} {O} : R.Y (T := Sm) q p O = passK (O ⟨q, p⟩) := rfl
@[simp ↓] theorem m_z {x : Sm} {O} {s : List PV} : R.z (T := Sm) x O s = cN s (x O) := rfl
@[simp ↓] theorem m_ms {p : List PV} {k : Su} {O} {s : List PV} : R.ms (T := Sm) p k O s = cL p s (k O) := rfl
@[simp ↓] theorem m_mz {p : List PV} {x : Sm} {O} {s : List PV} : R.mz (T := Sm) p x O s = cL p s fun s => cN s (x O) := rfl
@[simp ↓] theorem m_v1 {k : PV → Su} {O} {s : List PV} : R.v1 (T := Sm) k O s = cC s fun av s => k av O s := rfl
@[simp ↓] theorem m_w1 {k : PV → Sm} {O} {s : List PV} : R.w1 (T := Sm) k O s = cC s fun av s => cN s (k av O) := rfl
section
open R
variable {T : Type} [R T]
def g21a (a b c : PV) : T := D 2 [a,b,c] 1 0 (w3 fun d e f=>D 72 [d,e,f] 0 1 (w7 fun g h i j k l m=>D 6 [z0,g,h,i] 0 0 (v3 fun n o p=>mz [bt] (D 73 [n,o,p] 0 1 (w7 fun q r s t u v w=>S3 s i1 fun x=>O0 [q,r,x,i3,z0,i0,(.rows [[j,k,l,m],[t,u,v,w]])]) (w5 fun q r s t u=>S3 s i1 fun v=>O 1 [q,r,v,t,u]))) (v3 fun n o p=>mz [bf] (S3 p i1 fun q=>O 2 [n,o,q,j,k,l,m]))) (w5 fun g h i j k=>S3 i i1 fun l=>O 1 [g,h,l,j,k])) (w5 fun d e f g h=>O 1 [d,e,f,g,h])
def g44a (a b c d : PV) : T := C0 7 [b,c,d] (ms [b,c,d] (w4 fun e f g h=>N3 e a (C0 8 [(iv 110),h,b,c,d] (ms [b,c,d] (w2 fun i j=>O0 [b,c,d,i,j]))) (C0 9 [b,c,d] (w7 fun i j k l m n o=>O 1 [i,j,k,l,m,n,o]))))
def g45a (a b c : PV) : T := A3 c i1 fun d=>G3 d (iv 300) (C0 7 [a,b,d] (ms [a,b,d] (w4 fun e f g h=>C0 8 [(iv 111),h,a,b,d] (ms [a,b,d] (w2 fun i j=>O0 [a,b,d,i,j]))))) (O 1 [a,b,d])
def g46a (a b c : PV) : T := C0 7 [a,b,c] (ms [a,b,c] (w4 fun d e f g=>N3 d i2 (D 74 [a,b,c] 0 1 (w7 fun h i j k l m n=>O0 [h,i,j,k,l,m,n]) (w5 fun h i j k l=>O 1 [h,i,j,k,l])) (C0 9 [a,b,c] (w7 fun h i j k l m n=>J (D 4 [h,i,j,i3,l,i0] 1 3 (v6 fun o p q r s t=>mz [nS,i0,e0,i0,nS] (O0 [o,p,q,r,s,t,nS])) (v7 fun o p q r s t u=>mz [i0,e0,i0,nS] (O 2 [o,p,q,r,s,t,u]))) (D 4 [h,i,j,i3,l,i0] 0 2 (v6 fun o p q r s t=>ms [nS,i0,e0,i0,nS] (w2 fun u v=>O 1 [o,p,q,u,v])) (v7 fun o p q r s t u=>ms [i0,e0,i0,nS] (w2 fun v w=>O 1 [o,p,q,v,w])))))))
def g46ab0a (a b c d e f : PV) : T := D 11 [a,b,c] 0 0 (mz [a,b,c,bt] (D 74 [a,b,c] 0 1 (w7 fun g h i j k l m=>Y 5 [g,h,i,d,e,f,(.rows [[j,k,l,m]])]) (w5 fun g h i j k=>O0 [g,h,i,d,e,f,nS,i0,e0,i0,nS,j,k]))) (mz [a,b,c,bf] (O 1 [a,b,c,d,e,f,nS,i0,e0,i0,nS]))
def g46ab0b (a b c d e f g : PV) : T := D 11 [a,b,c] 0 0 (mz [a,b,c,bt] (D 74 [a,b,c] 0 1 (w7 fun h i j k l m n=>P 23 g (.rows [[k,l,m,n]]) fun o=>Y 5 [h,i,j,d,e,f,o]) (w5 fun h i j k l=>O 2 [h,i,j,d,e,f,g,i0,e0,i0,nS,k,l]))) (mz [a,b,c,bf] (O 3 [a,b,c,d,e,f,g,i0,e0,i0,nS]))
def g47a (a b c d : PV) : T := D 12 [a,b,c,d] 0 0 (mz [b,c,d,bt] (A3 c i1 fun e=>O0 [b,e,d,bt])) (mz [b,c,d,bf] (O0 [b,c,d,bf]))
def g54a (a b c : PV) : T := X 66 a b (w4 fun d e f g=>O0 [a,b,c,d,e,f,g])
def g73a (a b c d e : PV) : T := O0 [c,d,e,a,b]
def g71a (a b c : PV) : T := C0 7 [a,b,c] (ms [a,b,c] (w4 fun d e f g=>A3 b i1 fun h=>O0 [a,h,c,d,e,f,g]))
def g80a (a b c : PV) : T := C0 9 [a,b,c] (w7 fun d e f g h i j=>E3 g i2 (O0 [d,e,f,i3,h,i0,nS]) (E3 g i1 (O0 [d,e,f,i1,h,i0,nS]) (N3 g i7 (C0 8 [(iv 110),j,d,e,f] (ms [d,e,f] (w2 fun k l=>O 1 [d,e,f,k,l]))) (N9 h z3 (C0 8 [(iv 110),j,d,e,f] (ms [d,e,f] (w2 fun k l=>O 1 [d,e,f,k,l]))) (D 6 [z1,d,e,f] 0 0 (v3 fun k l m=>mz [bt] (O0 [k,l,m,i3,z2,i0,nS])) (v3 fun k l m=>mz [bf] (D 73 [k,l,m] 0 1 (w7 fun n o p q r s t=>D 13 [z1,n,o,p] 0 1 (w7 fun u v w x y z a0=>O0 [u,v,w,q,r,s,t]) (w5 fun u v w x y=>O 1 [u,v,w,x,y])) (w5 fun n o p q r=>O 1 [n,o,p,q,r]))))))))
def g81a (a b c : PV) : T := C0 7 [a,b,c] (ms [a,b,c] (w4 fun d e f g=>E3 d i2 (O0 [a,b,c,bt]) (E3 d i1 (O0 [a,b,c,bt]) (D 12 [z3,a,b,c] 0 0 (mz [a,b,c,bt] (O0 [a,b,c,bt])) (mz [a,b,c,bf] (O0 [a,b,c,bf]))))))
def g82a (a b c d : PV) : T := C0 7 [b,c,d] (ms [b,c,d] (w4 fun e f g h=>E3 e i7 (E9 f a (O0 [b,c,d,bt]) (O0 [b,c,d,bf])) (E3 e i6 (E9 f a (O0 [b,c,d,bt]) (O0 [b,c,d,bf])) (O0 [b,c,d,bf]))))
def g58a (a b c d : PV) : T := D 12 [a,b,c,d] 0 0 (mz [b,c,d,bt] (C0 9 [b,c,d] (w7 fun e f g h i j k=>O0 [e,f,g,h,i,j,k]))) (mz [b,c,d,bf] (C0 7 [b,c,d] (ms [b,c,d] (w4 fun e f g h=>C0 8 [(iv 110),h,b,c,d] (ms [b,c,d] (w2 fun i j=>O 1 [b,c,d,i,j]))))))
def g8 (a : PV) : T := C0 26 [a] (w5 fun b c d e f=>C0 75 [b,c,d,e,f] (w9 fun g h i j k l m n o=>C0 18 [i0,e0,g,h,i,j,k] (w9 fun p q r s t u v w x=>N3 s i0 (O0 [i0,e0,i0,nS,s,t]) (O0 [l,m,n,o,i0,i0]))))
def g23a (a b c d e : PV) : T := N3 d i0 (O0 [a,b,c,d,e,i0,e0,i0,nS]) (C0 19 [a,b,c,d,e] (w5 fun f g h i j=>C0 20 [f,g,h,i,j] (ms [f,g,h,i,j] (w4 fun k l m n=>E3 k i2 (A3 g i1 fun o=>D 16 [f,o,h,i,j,i3,l,i0] 0 1 (v8 fun p q r s t u v w=>mz [nS,i0,e0,i0,nS] (Q5 21 [z0,p,q,r,s,t] (fun x y z a0 b0=>C0 75 [x,y,z,a0,b0] (w9 fun c0 d0 f0 g0 h0 j0 k0 l0 m0=>S3 f0 i1 fun n0=>O 1 [c0,d0,n0,g0,h0,i3,z0,i0,(.rows [[u,v,w,nS],[j0,k0,l0,m0]])])) (fun x y z a0 b0=>S3 z i1 fun c0=>O0 [x,y,c0,a0,b0,u,v,w,nS]))) (v9 fun p q r s t u v w x=>mz [i0,e0,i0,nS] (Q5 21 [z0,p,q,r,s,t] (fun y z a0 b0 c0=>C0 75 [y,z,a0,b0,c0] (w9 fun d0 f0 g0 h0 j0 k0 l0 m0 n0=>S3 g0 i1 fun o0=>O 1 [d0,f0,o0,h0,j0,i3,z0,i0,(.rows [[u,v,w,x],[k0,l0,m0,n0]])])) (fun y z a0 b0 c0=>S3 a0 i1 fun d0=>O 1 [y,z,d0,b0,c0,u,v,w,x])))) (C0 76 [f,g,h,i,j] (w9 fun o p q r s t u v w=>Q5 21 [z0,o,p,q,r,s] (fun x y z a0 b0=>C0 75 [x,y,z,a0,b0] (w9 fun c0 d0 f0 g0 h0 j0 k0 l0 m0=>S3 f0 i1 fun n0=>O 1 [c0,d0,n0,g0,h0,i3,z0,i0,(.rows [[t,u,v,w],[j0,k0,l0,m0]])])) (fun x y z a0 b0=>S3 z i1 fun c0=>O0 [x,y,c0,a0,b0,t,u,v,w])))))))
def g23ab0a (a b c d e f g h : PV) : T := D 23 [i0,a,b,c,d,e] 0 0 (mz [a,b,c,d,e,bt] (C0 76 [a,b,c,d,e] (w9 fun i j k l m n o p q=>Y 17 [i,j,k,l,m,f,g,h,(.rows [[n,o,p,q]])]))) (mz [a,b,c,d,e,bf] (O0 [a,b,c,d,e,f,g,h,nS,i0,e0,i0,nS]))
def g23ab0b (a b c d e f g h i : PV) : T := D 23 [i0,a,b,c,d,e] 0 0 (mz [a,b,c,d,e,bt] (C0 76 [a,b,c,d,e] (w9 fun j k l m n o p q r=>P 23 i (.rows [[o,p,q,r]]) fun s=>Y 17 [j,k,l,m,n,f,g,h,s]))) (mz [a,b,c,d,e,bf] (O 1 [a,b,c,d,e,f,g,h,i,i0,e0,i0,nS]))
def g24a (a b c d e f g : PV) : T := C0 20 [c,d,e,f,g] (ms [c,d,e,f,g] (w4 fun h i j k=>N3 f i0 (O0 [c,d,e,f,g,h,i,j,k]) (L3 a i6 (N3 h a (C0 24 [(iv 110),k,c,d,e,f,g] (w5 fun l m n o p=>O0 [l,m,n,o,p,i0,e0,i0,i0])) (H3 a i6 (L3 h i6 (C0 24 [(iv 110),k,c,d,e,f,g] (w5 fun l m n o p=>O0 [l,m,n,o,p,i0,e0,i0,i0])) (N9 i b (C0 24 [(iv 110),k,c,d,e,f,g] (w5 fun l m n o p=>O0 [l,m,n,o,p,i0,e0,i0,i0])) (A3 d i1 fun l=>O0 [c,l,e,f,g,h,i,j,k]))) (A3 d i1 fun l=>O0 [c,l,e,f,g,h,i,j,k]))) (H3 a i6 (L3 h i6 (C0 24 [(iv 110),k,c,d,e,f,g] (w5 fun l m n o p=>O0 [l,m,n,o,p,i0,e0,i0,i0])) (N9 i b (C0 24 [(iv 110),k,c,d,e,f,g] (w5 fun l m n o p=>O0 [l,m,n,o,p,i0,e0,i0,i0])) (A3 d i1 fun l=>O0 [c,l,e,f,g,h,i,j,k]))) (A3 d i1 fun l=>O0 [c,l,e,f,g,h,i,j,k])))))
def g50a (a b c d e : PV) : T := A3 c i1 fun f=>G3 f (iv 300) (C0 20 [a,b,f,d,e] (ms [a,b,f,d,e] (w4 fun g h i j=>C0 24 [(iv 111),j,a,b,f,d,e] (w5 fun k l m n o=>O0 [k,l,m,n,o])))) (O0 [a,b,f,d,e])
def g28a (a b c d e : PV) : T := N3 d i0 (O0 [a,b,c,d,e,i0,e0,i0,i0]) (L 66 a fun f=>H3 b f (O0 [a,b,c,d,e,i0,e0,i0,i0]) (X 66 a b (w4 fun g h i j=>O0 [a,b,c,d,e,g,h,i,j])))
def g29a (a b c d e f : PV) : T := D 25 [a,b,c,d,e,f] 0 0 (mz [b,c,d,e,f,bt] (A3 c i1 fun g=>O0 [b,g,d,e,f,bt])) (mz [b,c,d,e,f,bf] (O0 [b,c,d,e,f,bf]))
def g52a (a b c d e : PV) : T := C0 20 [a,b,c,d,e] (ms [a,b,c,d,e] (w4 fun f g h i=>E3 f i2 (A3 b i1 fun j=>O0 [a,j,c,d,e,i3,g,i0,nS]) (E3 f i1 (A3 b i1 fun j=>O0 [a,j,c,d,e,i1,g,i0,nS]) (C0 18 [i7,z3,a,b,c,d,e] (w9 fun j k l m n o p q r=>Q5 21 [z1,j,k,l,m,n] (fun s t u v w=>O0 [s,t,u,v,w,i3,z2,i0,nS]) (fun s t u v w=>C0 75 [s,t,u,v,w] (w9 fun x y z a0 b0 c0 d0 f0 g0=>C0 18 [i7,z1,x,y,z,a0,b0] (w9 fun h0 j0 k0 l0 m0 n0 o0 p0 q0=>O0 [h0,j0,k0,l0,m0,c0,d0,f0,g0]))))))))
def g51a (a b c d e f : PV) : T := C0 20 [b,c,d,e,f] (ms [b,c,d,e,f] (w4 fun g h i j=>E3 g i1 (O0 [b,c,d,e,f,bt]) (E3 g i2 (O0 [b,c,d,e,f,bt]) (D 25 [z3,b,c,d,e,f] 0 0 (mz [b,c,d,e,f,bt] (O0 [b,c,d,e,f,bt])) (mz [b,c,d,e,f,bf] (H3 a i1 (E3 g i3 (O0 [b,c,d,e,f,bt]) (E3 a i1 (D 25 [z4,b,c,d,e,f] 0 0 (mz [b,c,d,e,f,bt] (O0 [b,c,d,e,f,bt])) (mz [b,c,d,e,f,bf] (E3 a i2 (E3 g i4 (O0 [b,c,d,e,f,bt]) (D 25 [z5,b,c,d,e,f] 0 0 (mz [b,c,d,e,f,bt] (O0 [b,c,d,e,f,bt])) (mz [b,c,d,e,f,bf] (O0 [b,c,d,e,f,bf])))) (O0 [b,c,d,e,f,bf])))) (E3 a i2 (E3 g i4 (O0 [b,c,d,e,f,bt]) (D 25 [z5,b,c,d,e,f] 0 0 (mz [b,c,d,e,f,bt] (O0 [b,c,d,e,f,bt])) (mz [b,c,d,e,f,bf] (O0 [b,c,d,e,f,bf])))) (O0 [b,c,d,e,f,bf])))) (E3 a i1 (D 25 [z4,b,c,d,e,f] 0 0 (mz [b,c,d,e,f,bt] (O0 [b,c,d,e,f,bt])) (mz [b,c,d,e,f,bf] (E3 a i2 (E3 g i4 (O0 [b,c,d,e,f,bt]) (D 25 [z5,b,c,d,e,f] 0 0 (mz [b,c,d,e,f,bt] (O0 [b,c,d,e,f,bt])) (mz [b,c,d,e,f,bf] (O0 [b,c,d,e,f,bf])))) (O0 [b,c,d,e,f,bf])))) (E3 a i2 (E3 g i4 (O0 [b,c,d,e,f,bt]) (D 25 [z5,b,c,d,e,f] 0 0 (mz [b,c,d,e,f,bt] (O0 [b,c,d,e,f,bt])) (mz [b,c,d,e,f,bf] (O0 [b,c,d,e,f,bf])))) (O0 [b,c,d,e,f,bf])))))))))
def g49a (a b c d e f g : PV) : T := E3 f i0 (O0 [c,d,e,a,b]) (O0 [c,d,e,f,g])
def g60a (a b c d e f : PV) : T := C0 20 [b,c,d,e,f] (ms [b,c,d,e,f] (w4 fun g h i j=>H3 g i6 (E9 h a (O0 [b,c,d,e,f,bt]) (O0 [b,c,d,e,f,bf])) (O0 [b,c,d,e,f,bf])))
def g22 (a : PV) : T := C0 77 [a] (w3 fun b c d=>N3 c i0 (C0 24 [c,d,b,i0,i0,i0,i0] (w5 fun e f g h i=>O0 [e,f,g,h,i])) (O0 [b,i0,i0,i0,i0]))
def g48 (a : PV) : T := L 9 a fun b=>G3 b (iv 60000) (O0 [nS,i3,i0]) (C0 30 [a] (w1 fun c=>H3 c i0 (O0 [nS,(iv 100),c]) (C0 32 [a,i0] (w1 fun d=>J (D 28 [d,a] 1 2 (mz [nS,a] (O 1 [(.rows [[i0,e0,i0,b]]),i0,i0])) (v1 fun e=>mz [a] (P 66 e (.rows [[i0,e0,i0,b]]) fun f=>O 1 [f,i0,i0]))) (C0 28 [d,a] (w3 fun e f g=>O0 [e,f,g]))))))
def g48b0a (a b : PV) : T := L 9 b fun c=>L3 a c (C0 35 [b,a] (w6 fun d e f g h i=>N3 i i0 (O0 [nS,i,a]) (C0 32 [b,h] (w1 fun j=>Y 29 [j,b,(.rows [[d,e,f,g]])])))) (O 1 [nS,b])
def g48b0b (a b c : PV) : T := L 9 b fun d=>L3 a d (C0 35 [b,a] (w6 fun e f g h i j=>N3 j i0 (O0 [nS,j,a]) (P 66 c (.rows [[e,f,g,h]]) fun k=>C0 32 [b,i] (w1 fun l=>Y 29 [l,b,k])))) (O 2 [c,b])
def g83 (a : PV) : T := D 31 [i0,a] 1 0 (z (O0 [(iv (-1))])) (w1 fun b=>O0 [b])
def g83b0a (a b : PV) : T := L 9 b fun c=>L3 a c (C0 37 [b,a] (w1 fun d=>E3 d i0 (O0 [a]) (A3 a d fun e=>Y 31 [e,b]))) (O 1 [])
def g84 (a b : PV) : T := C0 33 [b,a] (w1 fun c=>O0 [c])
def g84b0a (a b : PV) : T := L 9 b fun c=>L3 a c (I 9 b a fun d=>Q0 41 [d] (E5 d (.lit (.int .u8 35)) (C0 34 [a,b] (v1 fun e=>mz [b] (Y 33 [e,b]))) (A3 a i1 fun e=>Y 33 [e,b])) (E5 d (.lit (.int .u8 35)) (C0 34 [a,b] (v1 fun e=>mz [b] (Y 33 [e,b]))) (O0 [a]))) (O0 [a])
def g84b2a (a b : PV) : T := L 9 b fun c=>L3 a c (I 9 b a fun d=>TW .neq 5 d (.lit (.int .u8 10)) (A3 a i1 fun e=>Y 34 [e,b]) (O0 [a,b])) (O0 [a,b])
def g85 (a b : PV) : T := I 9 a b fun c=>E5 c (.lit (.int .u8 34)) (D 42 [a,b] 0 0 (v2 fun d e=>mz [bt] (O0 [i4,d,i0,b,e,i0])) (v2 fun d e=>mz [bf] (O0 [i0,e0,i0,b,i0,(iv 103)]))) (Q0 45 [c] (C0 46 [a,b,i2] (w1 fun d=>C0 36 [b,d,a,b] (ms [i0,e0,i0,b,i0,e0,i0,i0,a] (v1 fun e=>mz [d] (S 9 a (some (.pv e)) (some (.pv d)) fun f=>C0 48 [f] (w2 fun g h=>N3 h i0 (O0 [i0,e0,i0,b,i0,(iv 102)]) (O0 [i3,f,g,b,d,i0]))))))) (A3 b i1 fun d=>Q0 53 [c] (C0 46 [a,b,i1] (w1 fun e=>S 9 a (some (.pv b)) (some (.pv e)) fun f=>L 9 f fun g=>G3 g (iv 40) (O0 [i0,f,i0,b,i0,(iv 104)]) (Q0 54 [c] (Q0 55 [c] (Q0 57 [f] (Q0 56 [f] (O0 [i7,f,i0,b,e,i0]) (O0 [i6,f,i0,b,e,i0])) (Q0 56 [f] (O0 [i7,f,i0,b,e,i0]) (O0 [i5,f,i0,b,e,i0]))) (Q0 57 [f] (Q0 56 [f] (O0 [i7,f,i0,b,e,i0]) (O0 [i6,f,i0,b,e,i0])) (Q0 56 [f] (O0 [i7,f,i0,b,e,i0]) (O0 [i2,f,i0,b,e,i0])))) (Q0 55 [c] (Q0 57 [f] (Q0 56 [f] (O0 [i7,f,i0,b,e,i0]) (O0 [i6,f,i0,b,e,i0])) (Q0 56 [f] (O0 [i7,f,i0,b,e,i0]) (O0 [i5,f,i0,b,e,i0]))) (Q0 57 [f] (Q0 56 [f] (O0 [i7,f,i0,b,e,i0]) (O0 [i6,f,i0,b,e,i0])) (Q0 56 [f] (O0 [i7,f,i0,b,e,i0]) (O0 [i1,f,i0,b,e,i0]))))))) (Q0 54 [c] (C0 46 [a,b,i1] (w1 fun e=>S 9 a (some (.pv b)) (some (.pv e)) fun f=>L 9 f fun g=>G3 g (iv 40) (O0 [i0,f,i0,b,i0,(iv 104)]) (Q0 55 [c] (Q0 57 [f] (Q0 56 [f] (O0 [i7,f,i0,b,e,i0]) (O0 [i6,f,i0,b,e,i0])) (Q0 56 [f] (O0 [i7,f,i0,b,e,i0]) (O0 [i5,f,i0,b,e,i0]))) (Q0 57 [f] (Q0 56 [f] (O0 [i7,f,i0,b,e,i0]) (O0 [i6,f,i0,b,e,i0])) (Q0 56 [f] (O0 [i7,f,i0,b,e,i0]) (O0 [i2,f,i0,b,e,i0])))))) (Q0 55 [c] (C0 46 [a,b,i3] (w1 fun e=>S 9 a (some (.pv b)) (some (.pv e)) fun f=>L 9 f fun g=>G3 g (iv 40) (O0 [i0,f,i0,b,i0,(iv 104)]) (Q0 57 [f] (Q0 56 [f] (O0 [i7,f,i0,b,e,i0]) (O0 [i6,f,i0,b,e,i0])) (Q0 56 [f] (O0 [i7,f,i0,b,e,i0]) (O0 [i5,f,i0,b,e,i0]))))) (S 9 a (some (.pv b)) (some (.pv d)) fun e=>Q0 56 [e] (L 9 e fun f=>G3 f (iv 40) (O0 [i0,e,i0,b,i0,(iv 104)]) (Q0 57 [e] (O0 [i7,e,i0,b,d,i0]) (O0 [i7,e,i0,b,d,i0]))) (O0 [i0,e0,i0,b,i0,(iv 101)]))))))
def g85b0a (a b c d : PV) : T := S3 b i1 fun e=>L3 a e (I 9 c a fun f=>E5 f (.lit (.int .u8 48)) (A3 a i1 fun g=>Y 36 [g,b,c,d]) (O0 [i0,e0,i0,d,i0,e0,i0,i0,c,a,b])) (O0 [i0,e0,i0,d,i0,e0,i0,i0,c,a,b])
def g112 (a b : PV) : T := I 9 a b fun c=>V 5 3 c fun d=>L3 d (iv 128) (O0 [i1]) (H3 d (iv 192) (L3 d (iv 224) (S3 d (iv 192) fun e=>H3 d (iv 224) (L3 d (iv 240) (S3 d (iv 224) fun f=>H3 d (iv 240) (L3 d (iv 248) (S3 d (iv 240) fun g=>A3 b i4 fun h=>L 9 a fun i=>G3 h i (O0 [i0]) (D 38 [i1,a,b,g] 1 0 (v1 fun j=>mz [(iv 65536),i4] (L3 j (iv 65536) (O0 [i0]) (G3 j (iv 1114111) (O0 [i0]) (H3 j (iv 55296) (K3 j (iv 57343) (O0 [i0]) (O0 [i4])) (O0 [i4]))))) (w1 fun j=>O0 [j]))) (A3 b i3 fun g=>L 9 a fun h=>G3 g h (O0 [i0]) (D 39 [i1,a,b,f] 1 0 (v1 fun i=>mz [(iv 2048),i3] (L3 i (iv 2048) (O0 [i0]) (G3 i (iv 1114111) (O0 [i0]) (H3 i (iv 55296) (K3 i (iv 57343) (O0 [i0]) (O0 [i3])) (O0 [i3]))))) (w1 fun i=>O0 [i])))) (A3 b i3 fun g=>L 9 a fun h=>G3 g h (O0 [i0]) (D 39 [i1,a,b,f] 1 0 (v1 fun i=>mz [(iv 2048),i3] (L3 i (iv 2048) (O0 [i0]) (G3 i (iv 1114111) (O0 [i0]) (H3 i (iv 55296) (K3 i (iv 57343) (O0 [i0]) (O0 [i3])) (O0 [i3]))))) (w1 fun i=>O0 [i])))) (H3 d (iv 240) (L3 d (iv 248) (S3 d (iv 240) fun f=>A3 b i4 fun g=>L 9 a fun h=>G3 g h (O0 [i0]) (D 38 [i1,a,b,f] 1 0 (v1 fun i=>mz [(iv 65536),i4] (L3 i (iv 65536) (O0 [i0]) (G3 i (iv 1114111) (O0 [i0]) (H3 i (iv 55296) (K3 i (iv 57343) (O0 [i0]) (O0 [i4])) (O0 [i4]))))) (w1 fun i=>O0 [i]))) (A3 b i2 fun f=>L 9 a fun g=>G3 f g (O0 [i0]) (D 40 [i1,a,b,e] 1 0 (v1 fun h=>mz [(iv 128),i2] (L3 h (iv 128) (O0 [i0]) (G3 h (iv 1114111) (O0 [i0]) (H3 h (iv 55296) (K3 h (iv 57343) (O0 [i0]) (O0 [i2])) (O0 [i2]))))) (w1 fun h=>O0 [h])))) (A3 b i2 fun f=>L 9 a fun g=>G3 f g (O0 [i0]) (D 40 [i1,a,b,e] 1 0 (v1 fun h=>mz [(iv 128),i2] (L3 h (iv 128) (O0 [i0]) (G3 h (iv 1114111) (O0 [i0]) (H3 h (iv 55296) (K3 h (iv 57343) (O0 [i0]) (O0 [i2])) (O0 [i2]))))) (w1 fun h=>O0 [h]))))) (H3 d (iv 240) (L3 d (iv 248) (S3 d (iv 240) fun f=>A3 b i4 fun g=>L 9 a fun h=>G3 g h (O0 [i0]) (D 38 [i1,a,b,f] 1 0 (v1 fun i=>mz [(iv 65536),i4] (L3 i (iv 65536) (O0 [i0]) (G3 i (iv 1114111) (O0 [i0]) (H3 i (iv 55296) (K3 i (iv 57343) (O0 [i0]) (O0 [i4])) (O0 [i4]))))) (w1 fun i=>O0 [i]))) (A3 b i2 fun f=>L 9 a fun g=>G3 f g (O0 [i0]) (D 40 [i1,a,b,e] 1 0 (v1 fun h=>mz [(iv 128),i2] (L3 h (iv 128) (O0 [i0]) (G3 h (iv 1114111) (O0 [i0]) (H3 h (iv 55296) (K3 h (iv 57343) (O0 [i0]) (O0 [i2])) (O0 [i2]))))) (w1 fun h=>O0 [h])))) (A3 b i2 fun f=>L 9 a fun g=>G3 f g (O0 [i0]) (D 40 [i1,a,b,e] 1 0 (v1 fun h=>mz [(iv 128),i2] (L3 h (iv 128) (O0 [i0]) (G3 h (iv 1114111) (O0 [i0]) (H3 h (iv 55296) (K3 h (iv 57343) (O0 [i0]) (O0 [i2])) (O0 [i2]))))) (w1 fun h=>O0 [h]))))) (H3 d (iv 224) (L3 d (iv 240) (S3 d (iv 224) fun e=>H3 d (iv 240) (L3 d (iv 248) (S3 d (iv 240) fun f=>A3 b i4 fun g=>L 9 a fun h=>G3 g h (O0 [i0]) (D 38 [i1,a,b,f] 1 0 (v1 fun i=>mz [(iv 65536),i4] (L3 i (iv 65536) (O0 [i0]) (G3 i (iv 1114111) (O0 [i0]) (H3 i (iv 55296) (K3 i (iv 57343) (O0 [i0]) (O0 [i4])) (O0 [i4]))))) (w1 fun i=>O0 [i]))) (A3 b i3 fun f=>L 9 a fun g=>G3 f g (O0 [i0]) (D 39 [i1,a,b,e] 1 0 (v1 fun h=>mz [(iv 2048),i3] (L3 h (iv 2048) (O0 [i0]) (G3 h (iv 1114111) (O0 [i0]) (H3 h (iv 55296) (K3 h (iv 57343) (O0 [i0]) (O0 [i3])) (O0 [i3]))))) (w1 fun h=>O0 [h])))) (A3 b i3 fun f=>L 9 a fun g=>G3 f g (O0 [i0]) (D 39 [i1,a,b,e] 1 0 (v1 fun h=>mz [(iv 2048),i3] (L3 h (iv 2048) (O0 [i0]) (G3 h (iv 1114111) (O0 [i0]) (H3 h (iv 55296) (K3 h (iv 57343) (O0 [i0]) (O0 [i3])) (O0 [i3]))))) (w1 fun h=>O0 [h])))) (H3 d (iv 240) (L3 d (iv 248) (S3 d (iv 240) fun e=>A3 b i4 fun f=>L 9 a fun g=>G3 f g (O0 [i0]) (D 38 [i1,a,b,e] 1 0 (v1 fun h=>mz [(iv 65536),i4] (L3 h (iv 65536) (O0 [i0]) (G3 h (iv 1114111) (O0 [i0]) (H3 h (iv 55296) (K3 h (iv 57343) (O0 [i0]) (O0 [i4])) (O0 [i4]))))) (w1 fun h=>O0 [h]))) (O0 [i0])) (O0 [i0]))) (H3 d (iv 240) (L3 d (iv 248) (S3 d (iv 240) fun e=>A3 b i4 fun f=>L 9 a fun g=>G3 f g (O0 [i0]) (D 38 [i1,a,b,e] 1 0 (v1 fun h=>mz [(iv 65536),i4] (L3 h (iv 65536) (O0 [i0]) (G3 h (iv 1114111) (O0 [i0]) (H3 h (iv 55296) (K3 h (iv 57343) (O0 [i0]) (O0 [i4])) (O0 [i4]))))) (w1 fun h=>O0 [h]))) (O0 [i0])) (O0 [i0])))) (H3 d (iv 224) (L3 d (iv 240) (S3 d (iv 224) fun e=>H3 d (iv 240) (L3 d (iv 248) (S3 d (iv 240) fun f=>A3 b i4 fun g=>L 9 a fun h=>G3 g h (O0 [i0]) (D 38 [i1,a,b,f] 1 0 (v1 fun i=>mz [(iv 65536),i4] (L3 i (iv 65536) (O0 [i0]) (G3 i (iv 1114111) (O0 [i0]) (H3 i (iv 55296) (K3 i (iv 57343) (O0 [i0]) (O0 [i4])) (O0 [i4]))))) (w1 fun i=>O0 [i]))) (A3 b i3 fun f=>L 9 a fun g=>G3 f g (O0 [i0]) (D 39 [i1,a,b,e] 1 0 (v1 fun h=>mz [(iv 2048),i3] (L3 h (iv 2048) (O0 [i0]) (G3 h (iv 1114111) (O0 [i0]) (H3 h (iv 55296) (K3 h (iv 57343) (O0 [i0]) (O0 [i3])) (O0 [i3]))))) (w1 fun h=>O0 [h])))) (A3 b i3 fun f=>L 9 a fun g=>G3 f g (O0 [i0]) (D 39 [i1,a,b,e] 1 0 (v1 fun h=>mz [(iv 2048),i3] (L3 h (iv 2048) (O0 [i0]) (G3 h (iv 1114111) (O0 [i0]) (H3 h (iv 55296) (K3 h (iv 57343) (O0 [i0]) (O0 [i3])) (O0 [i3]))))) (w1 fun h=>O0 [h])))) (H3 d (iv 240) (L3 d (iv 248) (S3 d (iv 240) fun e=>A3 b i4 fun f=>L 9 a fun g=>G3 f g (O0 [i0]) (D 38 [i1,a,b,e] 1 0 (v1 fun h=>mz [(iv 65536),i4] (L3 h (iv 65536) (O0 [i0]) (G3 h (iv 1114111) (O0 [i0]) (H3 h (iv 55296) (K3 h (iv 57343) (O0 [i0]) (O0 [i4])) (O0 [i4]))))) (w1 fun h=>O0 [h]))) (O0 [i0])) (O0 [i0]))) (H3 d (iv 240) (L3 d (iv 248) (S3 d (iv 240) fun e=>A3 b i4 fun f=>L 9 a fun g=>G3 f g (O0 [i0]) (D 38 [i1,a,b,e] 1 0 (v1 fun h=>mz [(iv 65536),i4] (L3 h (iv 65536) (O0 [i0]) (G3 h (iv 1114111) (O0 [i0]) (H3 h (iv 55296) (K3 h (iv 57343) (O0 [i0]) (O0 [i4])) (O0 [i4]))))) (w1 fun h=>O0 [h]))) (O0 [i0])) (O0 [i0]))))
def g112b0a (a b c d : PV) : T := L3 a i4 (A3 c a fun e=>I 9 b e fun f=>V 5 3 f fun g=>L3 g (iv 128) (O0 [i0]) (G3 g (iv 191) (O0 [i0]) (B .mul 3 (iv 64) d fun h=>A3 h g fun i=>S3 i (iv 128) fun j=>A3 a i1 fun k=>Y 38 [k,b,c,j]))) (O 1 [d,(iv 65536),i4])
def g112b0b (a b c d : PV) : T := L3 a i3 (A3 c a fun e=>I 9 b e fun f=>V 5 3 f fun g=>L3 g (iv 128) (O0 [i0]) (G3 g (iv 191) (O0 [i0]) (B .mul 3 (iv 64) d fun h=>A3 h g fun i=>S3 i (iv 128) fun j=>A3 a i1 fun k=>Y 39 [k,b,c,j]))) (O 1 [d,(iv 2048),i3])
def g112b0c (a b c d : PV) : T := L3 a i2 (A3 c a fun e=>I 9 b e fun f=>V 5 3 f fun g=>L3 g (iv 128) (O0 [i0]) (G3 g (iv 191) (O0 [i0]) (B .mul 3 (iv 64) d fun h=>A3 h g fun i=>S3 i (iv 128) fun j=>A3 a i1 fun k=>Y 40 [k,b,c,j]))) (O 1 [d,(iv 128),i2])
def g113 (a : PV) : T := E5 a (.lit (.int .u8 32)) (O0 [bt]) (E5 a (.lit (.int .u8 9)) (O0 [bt]) (E5 a (.lit (.int .u8 10)) (O0 [bt]) (E5 a (.lit (.int .u8 13)) (O0 [bt]) (O0 [bf]))))
def g114 (a b : PV) : T := A3 b i1 fun c=>J (C 43 [c,a] 1 (z (O0 [e0,i0,bf]))) (D 43 [c,a] 0 0 (v2 fun d e=>mz [bt] (O0 [d,e,bt])) (v2 fun d e=>mz [bf] (O0 [d,e,bf])))
def g114b0a (a b : PV) : T := L 9 b fun c=>L3 a c (I 9 b a fun d=>E5 d (.lit (.int .u8 34)) (A3 a i1 fun e=>O0 [e0,e,bt]) (E5 d (.lit (.int .u8 10)) (O0 [e0,i0,bf]) (E5 d (.lit (.int .u8 92)) (A3 a i1 fun e=>E3 e c (O0 [e0,i0,bf]) (I 9 b e fun f=>Q0 58 [z6,f] (E5 f (.lit (.int .u8 110)) (A3 e i1 fun g=>Y 44 [g,b,(.rows [[(.lit (.int .u8 10))]])]) (E5 f (.lit (.int .u8 116)) (A3 e i1 fun g=>Y 44 [g,b,(.rows [[(.lit (.int .u8 9))]])]) (A3 e i1 fun g=>Y 44 [g,b,(.rows [[f]])]))) (O0 [e0,i0,bf]))) (A3 a i1 fun e=>Y 44 [e,b,(.rows [[d]])])))) (O 1 [])
def g114b0b (a b c : PV) : T := L 9 b fun d=>L3 a d (I 9 b a fun e=>E5 e (.lit (.int .u8 34)) (V 180 9 c fun f=>A3 a i1 fun g=>O0 [f,g,bt]) (E5 e (.lit (.int .u8 10)) (O0 [e0,i0,bf]) (E5 e (.lit (.int .u8 92)) (A3 a i1 fun f=>E3 f d (O0 [e0,i0,bf]) (I 9 b f fun g=>Q0 58 [z6,g] (E5 g (.lit (.int .u8 110)) (P 180 c (.rows [[(.lit (.int .u8 10))]]) fun h=>A3 f i1 fun i=>Y 44 [i,b,h]) (E5 g (.lit (.int .u8 116)) (P 180 c (.rows [[(.lit (.int .u8 9))]]) fun h=>A3 f i1 fun i=>Y 44 [i,b,h]) (P 180 c (.rows [[g]]) fun h=>A3 f i1 fun i=>Y 44 [i,b,h]))) (O0 [e0,i0,bf]))) (P 180 c (.rows [[e]]) fun f=>A3 a i1 fun g=>Y 44 [g,b,f])))) (O 1 [])
def g115 (a : PV) : T := TW .geq 5 a (.lit (.int .u8 48)) (TW .leq 5 a (.lit (.int .u8 57)) (O0 [bt]) (O0 [bf])) (O0 [bf])
def g116 (a b c : PV) : T := C0 47 [b,a,c] (w1 fun d=>O0 [d])
def g116b0a (a b c : PV) : T := L 9 b fun d=>L3 a d (E3 c i1 (I 9 b a fun e=>Q0 60 [e] (A3 a i1 fun f=>Y 47 [f,b,c]) (E3 c i2 (Q0 45 [e] (A3 a i1 fun f=>Y 47 [f,b,c]) (E3 c i3 (Q0 55 [e] (A3 a i1 fun f=>Y 47 [f,b,c]) (O0 [a])) (O0 [a]))) (E3 c i3 (Q0 55 [e] (A3 a i1 fun f=>Y 47 [f,b,c]) (O0 [a])) (O0 [a])))) (E3 c i2 (I 9 b a fun e=>Q0 45 [e] (A3 a i1 fun f=>Y 47 [f,b,c]) (E3 c i3 (Q0 55 [e] (A3 a i1 fun f=>Y 47 [f,b,c]) (O0 [a])) (O0 [a]))) (E3 c i3 (I 9 b a fun e=>Q0 55 [e] (A3 a i1 fun f=>Y 47 [f,b,c]) (O0 [a])) (O0 [a])))) (O0 [a])
def g117 (a : PV) : T := L 9 a fun b=>G3 b i0 (I 9 a i0 fun c=>E5 c (.lit (.int .u8 45)) (E3 i1 b (O0 [i0,i2]) (I 9 a i1 fun d=>E5 d (.lit (.int .u8 48)) (G3 b i2 (O0 [i0,i2]) (O0 [i0,i2])) (D 49 [i1,a] 1 0 (mz [i1,a,bt] (D 51 [i1,a,(.lit (.int .u64 0))] 1 0 (v1 fun e=>mz [bt] (TW .eql 183 e (.lit (.int .u64 4611686018427387904)) (C0 61 [e] (w1 fun f=>O0 [f,i0])) (C0 61 [e] (w1 fun f=>O0 [f,i0])))) (w2 fun e f=>O0 [e,f]))) (w2 fun e f=>O0 [e,f])))) (E3 i0 b (O0 [i0,i2]) (E5 c (.lit (.int .u8 48)) (G3 b i1 (O0 [i0,i2]) (D 50 [i0,a] 1 0 (mz [i0,a,bf] (D 52 [i0,a,(.lit (.int .u64 0))] 1 0 (v1 fun d=>mz [bf] (TW .eql 183 d (.lit (.int .u64 4611686018427387904)) (O0 [i0,i3]) (C0 62 [d] (w1 fun e=>O0 [e,i0])))) (w2 fun d e=>O0 [d,e]))) (w2 fun d e=>O0 [d,e]))) (D 50 [i0,a] 1 0 (mz [i0,a,bf] (D 52 [i0,a,(.lit (.int .u64 0))] 1 0 (v1 fun d=>mz [bf] (TW .eql 183 d (.lit (.int .u64 4611686018427387904)) (O0 [i0,i3]) (C0 62 [d] (w1 fun e=>O0 [e,i0])))) (w2 fun d e=>O0 [d,e]))) (w2 fun d e=>O0 [d,e]))))) (E3 i0 b (O0 [i0,i2]) (I 9 a i0 fun c=>E5 c (.lit (.int .u8 48)) (G3 b i1 (O0 [i0,i2]) (D 50 [i0,a] 1 0 (mz [i0,a,bf] (D 52 [i0,a,(.lit (.int .u64 0))] 1 0 (v1 fun d=>mz [bf] (TW .eql 183 d (.lit (.int .u64 4611686018427387904)) (O0 [i0,i3]) (C0 62 [d] (w1 fun e=>O0 [e,i0])))) (w2 fun d e=>O0 [d,e]))) (w2 fun d e=>O0 [d,e]))) (D 50 [i0,a] 1 0 (mz [i0,a,bf] (D 52 [i0,a,(.lit (.int .u64 0))] 1 0 (v1 fun d=>mz [bf] (TW .eql 183 d (.lit (.int .u64 4611686018427387904)) (O0 [i0,i3]) (C0 62 [d] (w1 fun e=>O0 [e,i0])))) (w2 fun d e=>O0 [d,e]))) (w2 fun d e=>O0 [d,e]))))
def g117b0a (a b : PV) : T := L 9 b fun c=>L3 a c (I 9 b a fun d=>TW .lss 5 d (.lit (.int .u8 48)) (O0 [i0,i2]) (TW .gtr 5 d (.lit (.int .u8 57)) (O0 [i0,i2]) (A3 a i1 fun e=>Y 49 [e,b]))) (O 1 [i1,b,bt])
def g117b0b (a b : PV) : T := L 9 b fun c=>L3 a c (I 9 b a fun d=>TW .lss 5 d (.lit (.int .u8 48)) (O0 [i0,i2]) (TW .gtr 5 d (.lit (.int .u8 57)) (O0 [i0,i2]) (A3 a i1 fun e=>Y 50 [e,b]))) (O 1 [i0,b,bf])
def g117b2a (a b c : PV) : T := L 9 b fun d=>L3 a d (B .mul 183 (.lit (.int .u64 10)) c fun e=>I 9 b a fun f=>B .sub 5 f (.lit (.int .u8 48)) fun g=>V 5 183 g fun h=>B .add 183 e h fun i=>TW .gtr 183 i (.lit (.int .u64 4611686018427387904)) (O0 [i0,i3]) (A3 a i1 fun j=>Y 51 [j,b,i])) (O 1 [c,bt])
def g117b2b (a b c : PV) : T := L 9 b fun d=>L3 a d (B .mul 183 (.lit (.int .u64 10)) c fun e=>I 9 b a fun f=>B .sub 5 f (.lit (.int .u8 48)) fun g=>V 5 183 g fun h=>B .add 183 e h fun i=>TW .gtr 183 i (.lit (.int .u64 4611686018427387904)) (O0 [i0,i3]) (A3 a i1 fun j=>Y 52 [j,b,i])) (O 1 [c,bf])
def g118 (a : PV) : T := TW .geq 5 a (.lit (.int .u8 97)) (TW .leq 5 a (.lit (.int .u8 122)) (O0 [bt]) (E5 a (.lit (.int .u8 95)) (O0 [bt]) (O0 [bf]))) (E5 a (.lit (.int .u8 95)) (O0 [bt]) (O0 [bf]))
def g119 (a : PV) : T := TW .geq 5 a (.lit (.int .u8 65)) (TW .leq 5 a (.lit (.int .u8 90)) (O0 [bt]) (O0 [bf])) (O0 [bf])
def g120 (a : PV) : T := Q0 58 [z7,a] (O0 [bt]) (O0 [bf])
def g121 (a : PV) : T := Q0 63 [a,(.rows [[z3],[z1],[z8],[z9],[z10],[z4],[z11],[z0],[z12],[z13]])] (O0 [bt]) (O0 [bf])
def g122 (a : PV) : T := Q0 63 [a,(.rows [[z14],[z15],[z16],[z17],[z18],[z19],[z20],[z21],[z22],[z23],[z24],[z25],[z5],[z26],[z27],[z28],[z29]])] (O0 [bt]) (O0 [bf])
def g142 (a b : PV) : T := J (C 59 [i0,a,b] 1 (z (O0 [bf]))) (Q0 59 [i0,a,b] (O0 [bt]) (O0 [bf]))
def g142b0a (a b c : PV) : T := L 9 b fun d=>L3 a d (I 9 b a fun e=>E5 e c (O0 [bt]) (A3 a i1 fun f=>Y 59 [f,b,c])) (O 1 [])
def g143 (a : PV) : T := Q0 53 [a] (O0 [bt]) (Q0 54 [a] (O0 [bt]) (Q0 45 [a] (O0 [bt]) (E5 a (.lit (.int .u8 39)) (O0 [bt]) (O0 [bf]))))
def g144g0 (a : PV) : T := B .rem 183 a (.lit (.int .u64 9223372036854775808)) fun b=>V 183 2 b fun c=>C0 65 [i0,c] (w1 fun d=>O0 [d])
def g144g1 (a : PV) : T := B .rem 183 a (.lit (.int .u64 9223372036854775808)) fun b=>V 183 2 b fun c=>C0 66 [c] (w1 fun d=>O0 [d])
def g145 (a b : PV) : T := J (C 64 [i0,b,a] 1 (z (O0 [bf]))) (Q0 64 [i0,b,a] (O0 [bt]) (O0 [bf]))
def g145b0a (a b c : PV) : T := L 73 b fun d=>L3 a d (X 73 b a (w1 fun e=>E9 e c (O0 [bt]) (A3 a i1 fun f=>Y 64 [f,b,c]))) (O 1 [])
def g156 (a b : PV) : T := C0 68 [a] (w1 fun c=>B .add 183 c (.lit (.int .u64 9223372036854775808)) fun d=>C0 68 [b] (w1 fun e=>B .sub 183 d e fun f=>B .rem 183 f (.lit (.int .u64 9223372036854775808)) fun g=>C0 67 [g] (w1 fun h=>O0 [h])))
def g157 (a : PV) : T := C0 68 [a] (w1 fun b=>C0 67 [b] (w1 fun c=>O0 [c]))
def g165 (a : PV) : T := TW .geq 183 a (.lit (.int .u64 4611686018427387904)) (B .sub 183 a (.lit (.int .u64 4611686018427387904)) fun b=>V 183 2 b fun c=>B .sub 2 c (iv 4611686018427387904) fun d=>O0 [d]) (V 183 2 a fun b=>O0 [b])
def g166 (a : PV) : T := V 2 183 a fun b=>B .rem 183 b (.lit (.int .u64 9223372036854775808)) fun c=>O0 [c]
def g9 (a b c d e f g h : PV) : T := E3 a e (E9 b f (E3 c g (Q0 70 [d,h] (O0 [bt]) (O0 [bf])) (O0 [bf])) (O0 [bf])) (O0 [bf])
def g25 (a b : PV) : T := L 23 a fun c=>L 23 b fun d=>N3 c d (O0 [bf]) (J (C 71 [i0,a,b] 1 (z (O0 [bt]))) (Q0 71 [i0,a,b] (O0 [bt]) (O0 [bf])))
def g25b0a (a b c : PV) : T := L 23 b fun d=>L3 a d (X 23 b a (w4 fun e f g h=>X 23 c a (w4 fun i j k l=>Q0 69 [e,f,g,h,i,j,k,l] (A3 a i1 fun m=>Y 71 [m,b,c]) (O0 [bf])))) (O 1 [])
end
def k1 (g : PV → Rf) : Et := g (.sym 0) 1
def k2 (g : PV → PV → Rf) : Et := g (.sym 0) (.sym 1) 2
def k3 (g : PV → PV → PV → Rf) : Et := g (.sym 0) (.sym 1) (.sym 2) 3
def k4 (g : PV → PV → PV → PV → Rf) : Et := g (.sym 0) (.sym 1) (.sym 2) (.sym 3) 4
def k5 (g : PV → PV → PV → PV → PV → Rf) : Et := g (.sym 0) (.sym 1) (.sym 2) (.sym 3) (.sym 4) 5
def k6 (g : PV → PV → PV → PV → PV → PV → Rf) : Et := g (.sym 0) (.sym 1) (.sym 2) (.sym 3) (.sym 4) (.sym 5) 6
def k7 (g : PV → PV → PV → PV → PV → PV → PV → Rf) : Et := g (.sym 0) (.sym 1) (.sym 2) (.sym 3) (.sym 4) (.sym 5) (.sym 6) 7
def k8 (g : PV → PV → PV → PV → PV → PV → PV → PV → Rf) : Et := g (.sym 0) (.sym 1) (.sym 2) (.sym 3) (.sym 4) (.sym 5) (.sym 6) (.sym 7) 8
def k9 (g : PV → PV → PV → PV → PV → PV → PV → PV → PV → Rf) : Et := g (.sym 0) (.sym 1) (.sym 2) (.sym 3) (.sym 4) (.sym 5) (.sym 6) (.sym 7) (.sym 8) 9
def pR : Nat → Nat → List PV
  | _, 0 => []
  | a, n + 1 => .sym a :: pR (a + 1) n
def wR : Nat → Nat → List AV
  | _, 0 => []
  | a, n + 1 => .pv (.sym a) :: wR (a + 1) n
def nA : AV := .pv nS
def eA : AV := .pv e0
def zA : AV := .pv i0
def tA : AV := .pv bt
def fA : AV := .pv bf
def rA (n : Nat) : AV := .ptr n 0
def nR : Nat → List AV
  | 0 => []
  | n + 1 => nA :: nR n
def tk (t s n : Nat) : AObj := .tok t s (symBase + n)
def eF (f : Nat) (a : List AV) (h : List AObj) (n m : Nat) : Ent := { f := f, args := a, h := h, n := n, fam := m }
def eL (a b f : Nat) (e : Env) (h : List AObj) (n m : Nat) : Ent := { lp := some (a, b), f := f, e := e, h := h, n := n, fam := m }
def rn (r : List Nat) (e : Ent) : Ent := { e with rin := r }
def wkE (e : Ent) (m b : Nat) : Ent := { e with fam := m, base := some b }
def wkM (e : Ent) (m b : Nat) (wm : List Nat) : Ent := { e with fam := m, base := some b, wm := wm }
def yU (v : AV) (m : Nat) : Shape := { v := v, m := m }
def yV (v : AV) (h : List AObj) (m : Nat) : Shape := { v := v, h := h, m := m }
def yW (v : AV) (h : List AObj) (m : Nat) (r : List Nat) : Shape := { v := v, h := h, m := m, rw := r }
def yE (x : AExit) (e : Env) (h : List AObj) (m : Nat) : Shape := { ex := x, e := e, h := h, m := m }
def yR (x : AExit) (e : Env) (h : List AObj) (m : Nat) (r : List Nat) : Shape := { ex := x, e := e, h := h, m := m, rw := r }
def b113_3 (a : Nat) : AObj := .box 113 (wR a 3)
def b25_4 (a : Nat) : AObj := .box 25 (wR a 4)
def b64_4 (a : Nat) : AObj := .box 64 (wR a 4)
def b68_5 (a : Nat) : AObj := .box 68 (wR a 5)
def o0 : AV := .pv (.sym 0)
def o1 : AV := .pv (.sym 1)
def o2 : AV := .pv (.sym 2)
def o3 : AV := .pv (.sym 3)
def o4 : AV := .pv (.sym 4)
def o5 : AV := .pv (.sym 5)
def o7 : AV := .pv (.sym 7)
def o8 : AV := .pv (.sym 8)
def o9 : AV := .pv (.sym 9)
def o10 : AV := .pv (.sym 10)
def y0 : List AV := [(.tup []),(.ifc 28 (.agg [(.pv (.sym 3)),(.pv (.sym 4))]))]
def y1 : List Shape := [yV (.agg (wR 3 4)) [b113_3 0] 7, yV (.tup y0) [b113_3 0] 5]
def y2 : List Shape := [yV (.agg (wR 5 4)) [b68_5 0] 9]
def y3 : Env := [(0,(rA 0)),(4,(rA 1)),(2,(rA 2))]
def y4 : List Shape := [yE .ret [(4,o0)] [] 1, yE (.exit 0) [] [] 0]
def en0 : Ent := eF 21 [(rA 0)] [b113_3 0] 3 0
def en3 : Ent := eF 46 [(rA 0)] [b113_3 0] 3 3
def en10 : Ent := eF 80 [(rA 0)] [b113_3 0] 3 9
def en15 : Ent := eF 23 [(rA 0)] [b68_5 0] 5 14
def en22 : Ent := eF 52 [(rA 0)] [b68_5 0] 5 20
def en27 : Ent := eF 48 [o0] [] 1 25
def en72 : Ent := wkM en3 64 3 [0, 1, 0]
def en73 : Ent := wkM en0 65 0 [0, 1, 0]
def en74 : Ent := wkM en10 66 10 [0, 1]
def en75 : Ent := wkE en15 67 15
def en76 : Ent := wkE en22 68 22
def en77 : Ent := wkE en27 69 27
def enL : List Ent := [
  en0,
  eF 44 [(rA 0),o0] [b113_3 1] 4 1,
  eF 45 [(rA 0)] [b113_3 0] 3 2,
  en3,
  eL 0 3 46 [(0,(rA 0)),(3,(rA 1)),(2,(rA 2))] [b113_3 0, .box 25 (wR 3 3 ++ [nA]), .box 25 [zA,eA,zA,nA]] 6 4,
  rn [6] (eL 0 3 46 [(0,(rA 0)),(3,(rA 1)),(2,(rA 2))] [b113_3 0, .box 25 (wR 3 3 ++ [(.tsym 3 6)]), .box 25 [zA,eA,zA,nA], tk 25 4 6] 7 4),
  eF 47 [(rA 0),o0] [b113_3 1] 4 5,
  eF 54 [(rA 0)] [b113_3 0] 3 6,
  eF 73 [(rA 0),o0,o1] [b113_3 2] 5 7,
  eF 71 [(rA 0)] [b113_3 0] 3 8,
  en10,
  eF 81 [(rA 0)] [b113_3 0] 3 10,
  eF 82 [(rA 0),o0] [b113_3 1] 4 11,
  eF 58 [(rA 0),o0] [b113_3 1] 4 12,
  eF 8 [o0] [] 1 13,
  en15,
  eL 0 3 23 y3 [b68_5 0, .box 25 (wR 5 3 ++ [nA]), .box 25 [zA,eA,zA,nA]] 8 15,
  rn [8] (eL 0 3 23 y3 [b68_5 0, .box 25 (wR 5 3 ++ [(.tsym 3 8)]), .box 25 [zA,eA,zA,nA], tk 25 4 8] 9 15),
  eF 24 [(rA 0),o0,o1] [b68_5 2] 7 16,
  eF 50 [(rA 0)] [b68_5 0] 5 17,
  eF 28 [(rA 0)] [b68_5 0] 5 18,
  eF 29 [(rA 0),o0] [b68_5 1] 6 19,
  en22,
  eF 51 [(rA 0),o0] [b68_5 1] 6 21,
  eF 49 [(rA 0),o0,o1] [b68_5 2] 7 22,
  eF 60 [(rA 0),o0] [b68_5 1] 6 23,
  eF 22 [o0] [] 1 24,
  en27,
  eL 0 0 48 [(7,o0),(0,o1),(6,nA)] [] 2 26,
  rn [2] (eL 0 0 48 [(7,o0),(0,o1),(6,(.tsym 0 2))] [tk 64 4 2] 3 26),
  eF 83 [o0] [] 1 27,
  eL 0 0 83 [(3,o0),(0,o1)] [] 2 28,
  eF 84 [o0,o1] [] 2 29,
  eL 0 0 84 [(1,o0),(0,o1)] [] 2 30,
  eL 2 0 84 [(1,o0),(0,o1)] [] 2 31,
  eF 85 [o0,o1] [] 2 32,
  eL 0 2 85 [(13,o0),(12,o1),(0,o2),(8,(rA 0)),(4,(rA 1))] [.box 64 [zA,eA,zA,o3], .box 64 [zA,eA,zA,zA]] 4 33,
  eF 112 [o0,o1] [] 2 34,
  eL 0 0 112 [(9,o0),(6,(.pv (.lit (.int .i64 4)))),(0,o1),(1,o2),(7,o3),(8,(.pv (.lit (.int .i64 65536))))] [] 4 35,
  eL 0 0 112 [(9,o0),(6,(.pv (.lit (.int .i64 3)))),(0,o1),(1,o2),(7,o3),(8,(.pv (.lit (.int .i64 2048))))] [] 4 35,
  eL 0 0 112 [(9,o0),(6,(.pv (.lit (.int .i64 2)))),(0,o1),(1,o2),(7,o3),(8,(.pv (.lit (.int .i64 128))))] [] 4 35,
  eF 113 [o0] [] 1 36,
  eF 114 [o0,o1] [] 2 37,
  eL 0 0 114 [(8,o0),(0,o1),(7,nA)] [] 2 38,
  rn [2] (eL 0 0 114 [(8,o0),(0,o1),(7,(.tsym 0 2))] [tk 5 1 2] 3 38),
  eF 115 [o0] [] 1 39,
  eF 116 (wR 0 3) [] 3 40,
  eL 0 0 116 [(1,o0),(0,o1),(2,o2)] [] 3 41,
  eF 117 [o0] [] 1 42,
  eL 0 0 117 [(6,o0),(0,o1),(5,(.pv (.lit (.int .i64 1)))),(4,tA)] [] 2 43,
  eL 0 0 117 [(6,o0),(0,o1),(5,zA),(4,fA)] [] 2 43,
  eL 2 0 117 [(8,o0),(0,o1),(7,o2),(4,tA)] [] 3 44,
  eL 2 0 117 [(8,o0),(0,o1),(7,o2),(4,fA)] [] 3 44,
  eF 118 [o0] [] 1 45,
  eF 119 [o0] [] 1 46,
  eF 120 [o0] [] 1 47,
  eF 121 [o0] [] 1 48,
  eF 122 [o0] [] 1 49,
  eF 142 [o0,o1] [] 2 50,
  eL 0 0 142 [(5,o0),(0,o1),(1,o2)] [] 3 51,
  eF 143 [o0] [] 1 52,
  eF 144 [o0,tA] [] 1 53,
  eF 144 [o0,fA] [] 1 54,
  eF 145 [o0,o1] [] 2 55,
  eL 0 0 145 [(5,o0),(1,o1),(0,o2)] [] 3 56,
  eF 156 [o0,o1] [] 2 57,
  eF 157 [o0] [] 1 58,
  eF 165 [o0] [] 1 59,
  eF 166 [o0] [] 1 60,
  eF 9 [(.agg (wR 0 4)),(.agg (wR 4 4))] [] 8 61,
  eF 25 [o0,o1] [] 2 62,
  eL 0 0 25 [(5,o0),(0,o1),(1,o2)] [] 3 63,
  en72,
  en73,
  en74,
  en75,
  en76,
  en77]
def shT : List (List Shape) := [
  [yW (.agg (wR 3 3 ++ [(.tsym 1 6)])) [b113_3 0, tk 25 4 6] 7 [6], yV (.tup y0) [b113_3 0] 5, yV (.agg (wR 3 4)) [b113_3 0] 7],
  [yV (.tup y0) [b113_3 0] 5, yV (.agg (wR 3 4)) [b113_3 0] 7],
  [yV (.tup y0) [b113_3 0] 5, yV (.fn 79 [(.ptr 1 0)]) [b113_3 0, .box 60 [(rA 0)]] 3],
  [yV (.agg (wR 3 4)) [b113_3 0] 7, yV (.tup y0) [b113_3 0] 5, yW (.agg (wR 3 3 ++ [(.tsym 1 6)])) [b113_3 0, tk 25 4 6] 7 [6]],
  [yE .pan [(26,(.ifc 28 (.agg [(.pv (.sym 11)),(.pv (.sym 12))])))] [b113_3 0, b25_4 3, b25_4 7] 13, yE (.exit 0) [(3,(rA 1)),(2,(rA 2))] [b113_3 0, b25_4 3, b25_4 7] 11, yR .pan [(26,(.ifc 28 (.agg [(.pv (.sym 11)),(.pv (.sym 12))])))] [b113_3 0, .box 25 (wR 3 3 ++ [(.tsym 3 6)]), b25_4 7, tk 25 4 6] 13 [6], yR (.exit 0) [(3,(rA 1)),(2,(rA 2))] [b113_3 0, .box 25 (wR 3 3 ++ [(.tsym 3 6)]), b25_4 7, tk 25 4 6] 11 [6]],
  [yV o3 [b113_3 0] 4],
  [yV (.agg (wR 3 4)) [b113_3 0] 7],
  [yV (.tup y0) [b113_3 0] 5],
  [yV (.agg (wR 3 4)) [b113_3 0] 7],
  y1,
  [yV o3 [b113_3 0] 4],
  [yV o3 [b113_3 0] 4],
  y1,
  [yU (.tup [(.agg (wR 0 4)),o4,o5]) 6],
  [yV (.agg (wR 5 4)) [b68_5 0] 9, yW (.agg (wR 5 3 ++ [(.tsym 1 8)])) [b68_5 0, tk 25 4 8] 9 [8]],
  [yE (.exit 0) y3 [b68_5 0, b25_4 5, b25_4 9] 13, yR (.exit 0) y3 [b68_5 0, .box 25 (wR 5 3 ++ [(.tsym 3 8)]), b25_4 9, tk 25 4 8] 13 [8]],
  y2,
  [yV (.tup []) [b68_5 0] 5],
  y2,
  [yV o5 [b68_5 0] 6],
  y2,
  [yV o5 [b68_5 0] 6],
  [yV (.tup []) [b68_5 0] 5],
  [yV o5 [b68_5 0] 6],
  [yV (rA 0) [b68_5 0] 5],
  [yU (.tup (wR 0 3)) 3, yW (.tup [(.tsym 0 0),o1,o2]) [tk 64 4 0] 3 [0]],
  [yE .ret [(2,o0),(3,o1),(4,o2)] [] 3, yE (.exit 0) [(6,o0),(0,o1)] [] 2, yR (.exit 0) [(6,(.tsym 0 0)),(0,o1)] [tk 64 4 0] 2 [0]],
  [yU o0 1],
  [yE .ret [(2,o0)] [] 1, yE (.exit 0) [] [] 0],
  [yU o0 1],
  [yE (.exit 0) [(1,o0)] [] 1],
  [yE (.exit 2) [(1,o0),(0,o1)] [] 2],
  [yU (.tup [(.agg (wR 0 4)),o4,o5]) 6],
  [yE (.exit 0) [(0,o8),(13,o9),(12,o10),(8,(rA 0)),(4,(rA 1))] [b64_4 0, b64_4 4] 11],
  [yU o0 1],
  [yE .ret [(4,o0)] [] 1, yE (.exit 0) [(7,o0),(8,o1),(6,o2)] [] 3],
  [yU o0 1],
  [yU (.tup (wR 0 3)) 3],
  [yE .ret [(4,o0),(5,o1),(6,o2)] [] 3, yE (.exit 0) [] [] 0],
  [yU o0 1],
  [yU o0 1],
  [yE (.exit 0) [(1,o0)] [] 1],
  [yU (.tup [o0,o1]) 2],
  [yE .ret [(2,o0),(3,o1)] [] 2, yE (.exit 0) [(5,o0),(0,o1),(4,o2)] [] 3],
  [yE .ret [(2,o0),(3,o1)] [] 2, yE (.exit 2) [(7,o0),(4,o1)] [] 2],
  [yU o0 1],
  [yU o0 1],
  [yU o0 1],
  [yU o0 1],
  [yU o0 1],
  [yU o0 1],
  y4,
  [yU o0 1],
  [yU o0 1],
  [yU o0 1],
  [yU o0 1],
  y4,
  [yU o0 1],
  [yU o0 1],
  [yU o0 1],
  [yU o0 1],
  [yU o0 1],
  [yU o0 1],
  y4,
  y1,
  y1,
  y1,
  y2,
  y2,
  [yU (.tup (wR 0 3)) 3]]
def etL : List Et := [k3 g21a, k4 g44a, k3 g45a, k3 g46a, k6 g46ab0a, k7 g46ab0b, k4 g47a, k3 g54a, k5 g73a, k3 g71a, k3 g80a, k3 g81a, k4 g82a, k4 g58a, k1 g8, k5 g23a, k8 g23ab0a, k9 g23ab0b, k7 g24a, k5 g50a, k5 g28a, k6 g29a, k5 g52a, k6 g51a, k7 g49a, k6 g60a, k1 g22, k1 g48, k2 g48b0a, k3 g48b0b, k1 g83, k2 g83b0a, k2 g84, k2 g84b0a, k2 g84b2a, k2 g85, k4 g85b0a, k2 g112, k4 g112b0a, k4 g112b0b, k4 g112b0c, k1 g113, k2 g114, k2 g114b0a, k3 g114b0b, k1 g115, k3 g116, k3 g116b0a, k1 g117, k2 g117b0a, k2 g117b0b, k3 g117b2a, k3 g117b2b, k1 g118, k1 g119, k1 g120, k1 g121, k1 g122, k2 g142, k3 g142b0a, k1 g143, k1 g144g0, k1 g144g1, k2 g145, k3 g145b0a, k2 g156, k1 g157, k1 g165, k1 g166, k8 g9, k2 g25, k3 g25b0a, etNo, etNo, etNo, etNo, etNo, etNo]
def SS : Nat → List Shape := nth [] shT
def EE : Nat → Ent := nth dEn enL
def TT : Nat → Et := nth etNo etL
noncomputable abbrev ev : Q → Option Rs := Evl PG EE TT
abbrev RK (k : Nat) : Prop := RuleOk PG SS EE TT k
abbrev q21a (a b c : PV) : Q := ⟨0, [a, b, c]⟩
abbrev q44a (a b c d : PV) : Q := ⟨1, [a, b, c, d]⟩
abbrev q45a (a b c : PV) : Q := ⟨2, [a, b, c]⟩
abbrev q46a (a b c : PV) : Q := ⟨3, [a, b, c]⟩
abbrev q46ab0a (a b c d e f : PV) : Q := ⟨4, [a, b, c, d, e, f]⟩
abbrev q46ab0b (a b c d e f : PV) (g : List (List PV)) : Q := ⟨5, [a, b, c, d, e, f, .rows g]⟩
abbrev q47a (a b c d : PV) : Q := ⟨6, [a, b, c, d]⟩
abbrev q54a (a b c : PV) : Q := ⟨7, [a, b, c]⟩
abbrev q73a (a b c d e : PV) : Q := ⟨8, [a, b, c, d, e]⟩
abbrev q71a (a b c : PV) : Q := ⟨9, [a, b, c]⟩
abbrev q80a (a b c : PV) : Q := ⟨10, [a, b, c]⟩
abbrev q81a (a b c : PV) : Q := ⟨11, [a, b, c]⟩
abbrev q82a (a b c d : PV) : Q := ⟨12, [a, b, c, d]⟩
abbrev q58a (a b c d : PV) : Q := ⟨13, [a, b, c, d]⟩
abbrev q8 (a : PV) : Q := ⟨14, [a]⟩
abbrev q23a (a b c d e : PV) : Q := ⟨15, [a, b, c, d, e]⟩
abbrev q23ab0a (a b c d e f g h : PV) : Q := ⟨16, [a, b, c, d, e, f, g, h]⟩
abbrev q23ab0b (a b c d e f g h : PV) (i : List (List PV)) : Q := ⟨17, [a, b, c, d, e, f, g, h, .rows i]⟩
abbrev q24a (a b c d e f g : PV) : Q := ⟨18, [a, b, c, d, e, f, g]⟩
abbrev q50a (a b c d e : PV) : Q := ⟨19, [a, b, c, d, e]⟩
abbrev q28a (a b c d e : PV) : Q := ⟨20, [a, b, c, d, e]⟩
abbrev q29a (a b c d e f : PV) : Q := ⟨21, [a, b, c, d, e, f]⟩
abbrev q52a (a b c d e : PV) : Q := ⟨22, [a, b, c, d, e]⟩
abbrev q51a (a b c d e f : PV) : Q := ⟨23, [a, b, c, d, e, f]⟩
abbrev q49a (a b c d e f g : PV) : Q := ⟨24, [a, b, c, d, e, f, g]⟩
abbrev q60a (a b c d e f : PV) : Q := ⟨25, [a, b, c, d, e, f]⟩
abbrev q22 (a : PV) : Q := ⟨26, [a]⟩
abbrev q48 (a : PV) : Q := ⟨27, [a]⟩
abbrev q48b0a (a b : PV) : Q := ⟨28, [a, b]⟩
abbrev q48b0b (a b : PV) (c : List (List PV)) : Q := ⟨29, [a, b, .rows c]⟩
abbrev q83 (a : PV) : Q := ⟨30, [a]⟩
abbrev q83b0a (a b : PV) : Q := ⟨31, [a, b]⟩
abbrev q84 (a b : PV) : Q := ⟨32, [a, b]⟩
abbrev q84b0a (a b : PV) : Q := ⟨33, [a, b]⟩
abbrev q84b2a (a b : PV) : Q := ⟨34, [a, b]⟩
abbrev q85 (a b : PV) : Q := ⟨35, [a, b]⟩
abbrev q85b0a (a b c d : PV) : Q := ⟨36, [a, b, c, d]⟩
abbrev q112 (a b : PV) : Q := ⟨37, [a, b]⟩
abbrev q112b0a (a b c d : PV) : Q := ⟨38, [a, b, c, d]⟩
abbrev q112b0b (a b c d : PV) : Q := ⟨39, [a, b, c, d]⟩
abbrev q112b0c (a b c d : PV) : Q := ⟨40, [a, b, c, d]⟩
abbrev q113 (a : PV) : Q := ⟨41, [a]⟩
abbrev q114 (a b : PV) : Q := ⟨42, [a, b]⟩
abbrev q114b0a (a b : PV) : Q := ⟨43, [a, b]⟩
abbrev q114b0b (a b : PV) (c : List (List PV)) : Q := ⟨44, [a, b, .rows c]⟩
abbrev q115 (a : PV) : Q := ⟨45, [a]⟩
abbrev q116 (a b c : PV) : Q := ⟨46, [a, b, c]⟩
abbrev q116b0a (a b c : PV) : Q := ⟨47, [a, b, c]⟩
abbrev q117 (a : PV) : Q := ⟨48, [a]⟩
abbrev q117b0a (a b : PV) : Q := ⟨49, [a, b]⟩
abbrev q117b0b (a b : PV) : Q := ⟨50, [a, b]⟩
abbrev q117b2a (a b c : PV) : Q := ⟨51, [a, b, c]⟩
abbrev q117b2b (a b c : PV) : Q := ⟨52, [a, b, c]⟩
abbrev q118 (a : PV) : Q := ⟨53, [a]⟩
abbrev q119 (a : PV) : Q := ⟨54, [a]⟩
abbrev q120 (a : PV) : Q := ⟨55, [a]⟩
abbrev q121 (a : PV) : Q := ⟨56, [a]⟩
abbrev q122 (a : PV) : Q := ⟨57, [a]⟩
abbrev q142 (a b : PV) : Q := ⟨58, [a, b]⟩
abbrev q142b0a (a b c : PV) : Q := ⟨59, [a, b, c]⟩
abbrev q143 (a : PV) : Q := ⟨60, [a]⟩
abbrev q144g0 (a : PV) : Q := ⟨61, [a]⟩
abbrev q144g1 (a : PV) : Q := ⟨62, [a]⟩
abbrev q145 (a b : PV) : Q := ⟨63, [a, b]⟩
abbrev q145b0a (a b c : PV) : Q := ⟨64, [a, b, c]⟩
abbrev q156 (a b : PV) : Q := ⟨65, [a, b]⟩
abbrev q157 (a : PV) : Q := ⟨66, [a]⟩
abbrev q165 (a : PV) : Q := ⟨67, [a]⟩
abbrev q166 (a : PV) : Q := ⟨68, [a]⟩
abbrev q9 (a b c d e f g h : PV) : Q := ⟨69, [a, b, c, d, e, f, g, h]⟩
abbrev q25 (a b : PV) : Q := ⟨70, [a, b]⟩
abbrev q25b0a (a b c : PV) : Q := ⟨71, [a, b, c]⟩
abbrev q46aw (a b c : PV) : Q := ⟨72, [a, b, c]⟩
abbrev q21aw (a b c : PV) : Q := ⟨73, [a, b, c]⟩
abbrev q80aw (a b c : PV) : Q := ⟨74, [a, b, c]⟩
abbrev q23aw (a b c d e : PV) : Q := ⟨75, [a, b, c, d, e]⟩
abbrev q52aw (a b c d e : PV) : Q := ⟨76, [a, b, c, d, e]⟩
abbrev q48w (a : PV) : Q := ⟨77, [a]⟩
end Go.Proofs.YtijcobeebaceoaaGreatDoor
