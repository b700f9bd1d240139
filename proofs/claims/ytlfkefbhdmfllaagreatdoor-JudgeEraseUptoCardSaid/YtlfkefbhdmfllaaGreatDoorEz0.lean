/- What the entries ask and mean, written once. Printed by hq.py. -/
import Derived.Test.YtlfkefbhdmfllaaGreatDoorBc
import Derived.Test.YtlfkefbhdmfllaaGreatDoorProg
namespace Go.Proofs.YtlfkefbhdmfllaaGreatDoor
open Go.RowKit
noncomputable abbrev PG : Program := Tryz.prog
abbrev bt : PV := .lit (.bool true)
abbrev bf : PV := .lit (.bool false)
abbrev nS : PV := .lit (.slice none 0 0)
abbrev e0 : PV := .lit (.string ⟨#[]⟩)
abbrev i0 : PV := .lit (.int .i64 0)
abbrev i1 : PV := .lit (.int .i64 1)
abbrev i2 : PV := .lit (.int .i64 2)
abbrev i3 : PV := .lit (.int .i64 3)
abbrev i4 : PV := .lit (.int .i64 4)
abbrev i5 : PV := .lit (.int .i64 5)
abbrev i6 : PV := .lit (.int .i64 6)
abbrev i7 : PV := .lit (.int .i64 7)
abbrev i8 : PV := .lit (.int .i64 8)
abbrev i9 : PV := .lit (.int .i64 9)
abbrev nL : PV := .lit (.slice none 0 0)
noncomputable def cI (s : List PV) (v : PV) (k : List PV → Res) : Res := consK .fail s fun y r => isK .fail v y (k r)
def cC (s : List PV) (k : PV → List PV → Res) : Res := consK .fail s k
def cN (s : List PV) (k : Res) : Res := nilK .fail s k
noncomputable def cL : List PV → List PV → (List PV → Res) → Res
  | [], s, k => k s
  | v :: vs, s, k => cI s v fun s => cL vs s k
@[simp] theorem cI_cons (y : PV) (r : List PV) (v : PV) (k : List PV → Res) : cI (y :: r) v k = isK .fail v y (k r) := rfl
@[simp] theorem cC_cons (y : PV) (r : List PV) (k : PV → List PV → Res) : cC (y :: r) k = k y r := rfl
@[simp] theorem cI_nil (v : PV) (k : List PV → Res) : cI [] v k = .fail := rfl
@[simp] theorem cC_nil (k : PV → List PV → Res) : cC [] k = .fail := rfl
@[simp] theorem cN_nil (k : Res) : cN [] k = k := rfl
@[simp] theorem cN_cons (y : PV) (r : List PV) (k : Res) : cN (y :: r) k = .fail := rfl
@[simp] theorem cL_nil (s : List PV) (k : List PV → Res) : cL [] s k = k s := rfl
@[simp] theorem cL_cons (v : PV) (vs : List PV) (y : PV) (r : List PV) (k : List PV → Res) : cL (v :: vs) (y :: r) k = isK .fail v y (cL vs r k) := rfl
@[simp] theorem cL_out (v : PV) (vs : List PV) (k : List PV → Res) : cL (v :: vs) [] k = .fail := rfl
@[simp] noncomputable def bI (b : BinOp) (t : TypeId) (u v r : PV) (k : Res) : Res := binK PG .fail b t (.pv u) (.pv v) fun w => pvK .fail w fun y => isK .fail r y k
@[simp] noncomputable def bV (b : BinOp) (t : TypeId) (u v : PV) (k : PV → Res) : Res := binK PG .fail b t (.pv u) (.pv v) fun w => pvK .fail w k
@[simp] noncomputable def lV (t : TypeId) (u : PV) (k : PV → Res) : Res := lenK PG .fail t (.pv u) fun w => pvK .fail w k
@[simp] noncomputable def xV (t : TypeId) (u i : PV) (k : List PV → Res) : Res := idxK PG .fail t (.pv u) (.pv i) fun w => cptrK .fail w k
@[simp] noncomputable def sV (t : TypeId) (u i : PV) (k : PV → Res) : Res := slcK PG .fail t (.pv u) none (some (.pv i)) fun w => pvK .fail w k
@[simp] noncomputable def bA (b : BinOp) (t : TypeId) (u v : PV) (k1 k2 : Res) : Res := Res.alt (bI b t u v (.lit (.bool true)) k1) (bI b t u v (.lit (.bool false)) k2)
@[simp] noncomputable def cA (o : Option Rs) (m n : Nat) (k1 k2 : List PV → Res) : Res := Res.alt (callK o m k1) (callK o n k2)

/-- What a program may be read as. -/
class R (T : Type) where
  U : Type
  TW : BinOp → TypeId → PV → PV → T → T → T
  E3 : PV → PV → T → T → T
  L3 : PV → PV → T → T → T
  N3 : PV → PV → T → T → T
  G3 : PV → PV → T → T → T
  K3 : PV → PV → T → T → T
  N9 : PV → PV → T → T → T
  E9 : PV → PV → T → T → T
  A3 : PV → PV → (PV → T) → T
  S3 : PV → PV → (PV → T) → T
  L : TypeId → PV → (PV → T) → T
  P : TypeId → PV → PV → (PV → T) → T
  X : TypeId → PV → PV → U → T
  J : T → T → T
  C : Nat → List PV → Nat → U → T
  C0 : Nat → List PV → U → T
  D : Nat → List PV → Nat → Nat → U → U → T
  Q0 : Nat → List PV → T → T → T
  O : Nat → List PV → T
  O0 : List PV → T
  Y : Nat → List PV → T
  z : T → U
  ms : List PV → U → U
  mz : List PV → T → U
  v1 : (PV → U) → U
  w1 : (PV → T) → U
@[simp ↓] abbrev R.v2 {T : Type} [R T] (k : PV → PV → R.U T) : R.U T := R.v1 fun a => R.v1 (k a)
@[simp ↓] abbrev R.v3 {T : Type} [R T] (k : PV → PV → PV → R.U T) : R.U T := R.v1 fun a => R.v2 (k a)
@[simp ↓] abbrev R.v4 {T : Type} [R T] (k : PV → PV → PV → PV → R.U T) : R.U T := R.v1 fun a => R.v3 (k a)
@[simp ↓] abbrev R.v5 {T : Type} [R T] (k : PV → PV → PV → PV → PV → R.U T) : R.U T := R.v1 fun a => R.v4 (k a)
@[simp ↓] abbrev R.v6 {T : Type} [R T] (k : PV → PV → PV → PV → PV → PV → R.U T) : R.U T := R.v1 fun a => R.v5 (k a)
@[simp ↓] abbrev R.v7 {T : Type} [R T] (k : PV → PV → PV → PV → PV → PV → PV → R.U T) : R.U T := R.v1 fun a => R.v6 (k a)
@[simp ↓] abbrev R.v8 {T : Type} [R T] (k : PV → PV → PV → PV → PV → PV → PV → PV → R.U T) : R.U T := R.v1 fun a => R.v7 (k a)
@[simp ↓] abbrev R.w2 {T : Type} [R T] (k : PV → PV → T) : R.U T := R.v1 fun a => R.w1 (k a)
@[simp ↓] abbrev R.w3 {T : Type} [R T] (k : PV → PV → PV → T) : R.U T := R.v1 fun a => R.w2 (k a)
@[simp ↓] abbrev R.w4 {T : Type} [R T] (k : PV → PV → PV → PV → T) : R.U T := R.v1 fun a => R.w3 (k a)
@[simp ↓] abbrev R.w5 {T : Type} [R T] (k : PV → PV → PV → PV → PV → T) : R.U T := R.v1 fun a => R.w4 (k a)
@[simp ↓] abbrev R.w6 {T : Type} [R T] (k : PV → PV → PV → PV → PV → PV → T) : R.U T := R.v1 fun a => R.w5 (k a)
@[simp ↓] abbrev R.w7 {T : Type} [R T] (k : PV → PV → PV → PV → PV → PV → PV → T) : R.U T := R.v1 fun a => R.w6 (k a)
@[simp ↓] abbrev R.w8 {T : Type} [R T] (k : PV → PV → PV → PV → PV → PV → PV → PV → T) : R.U T := R.v1 fun a => R.w7 (k a)
@[simp ↓] abbrev R.w9 {T : Type} [R T] (k : PV → PV → PV → PV → PV → PV → PV → PV → PV → T) : R.U T := R.v1 fun a => R.w8 (k a)
@[simp ↓] abbrev R.w10 {T : Type} [R T] (k : PV → PV → PV → PV → PV → PV → PV → PV → PV → PV → T) : R.U T := R.v1 fun a => R.w9 (k a)
@[simp ↓] abbrev R.w11 {T : Type} [R T] (k : PV → PV → PV → PV → PV → PV → PV → PV → PV → PV → PV → T) : R.U T := R.v1 fun a => R.w10 (k a)
@[simp ↓] abbrev R.w12 {T : Type} [R T] (k : PV → PV → PV → PV → PV → PV → PV → PV → PV → PV → PV → PV → T) : R.U T := R.v1 fun a => R.w11 (k a)
@[simp ↓] abbrev R.w13 {T : Type} [R T] (k : PV → PV → PV → PV → PV → PV → PV → PV → PV → PV → PV → PV → PV → T) : R.U T := R.v1 fun a => R.w12 (k a)
@[simp ↓] abbrev R.w14 {T : Type} [R T] (k : PV → PV → PV → PV → PV → PV → PV → PV → PV → PV → PV → PV → PV → PV → T) : R.U T := R.v1 fun a => R.w13 (k a)
@[simp ↓] abbrev R.w15 {T : Type} [R T] (k : PV → PV → PV → PV → PV → PV → PV → PV → PV → PV → PV → PV → PV → PV → PV → T) : R.U T := R.v1 fun a => R.w14 (k a)
@[simp ↓] abbrev R.w16 {T : Type} [R T] (k : PV → PV → PV → PV → PV → PV → PV → PV → PV → PV → PV → PV → PV → PV → PV → PV → T) : R.U T := R.v1 fun a => R.w15 (k a)
@[simp ↓] abbrev R.w17 {T : Type} [R T] (k : PV → PV → PV → PV → PV → PV → PV → PV → PV → PV → PV → PV → PV → PV → PV → PV → PV → T) : R.U T := R.v1 fun a => R.w16 (k a)
abbrev Rf : Type := Nat → Et
abbrev Ru : Type := Nat → List PV × Et
abbrev Sm : Type := (Q → Option Rs) → Res
abbrev Su : Type := (Q → Option Rs) → List PV → Res
instance : R Rf where
  U := Ru
  TW := fun b t u v x y n => .alt (.say (.bin b t (.pv u) (.pv v) (.pv bt)) (x n)) (.say (.bin b t (.pv u) (.pv v) (.pv bf)) (y n))
  E3 := fun u v x y n => .alt (.say (.bin .eql 3 (.pv u) (.pv v) (.pv bt)) (x n)) (.say (.bin .eql 3 (.pv u) (.pv v) (.pv bf)) (y n))
  L3 := fun u v x y n => .alt (.say (.bin .lss 3 (.pv u) (.pv v) (.pv bt)) (x n)) (.say (.bin .lss 3 (.pv u) (.pv v) (.pv bf)) (y n))
  N3 := fun u v x y n => .alt (.say (.bin .neq 3 (.pv u) (.pv v) (.pv bt)) (x n)) (.say (.bin .neq 3 (.pv u) (.pv v) (.pv bf)) (y n))
  G3 := fun u v x y n => .alt (.say (.bin .gtr 3 (.pv u) (.pv v) (.pv bt)) (x n)) (.say (.bin .gtr 3 (.pv u) (.pv v) (.pv bf)) (y n))
  K3 := fun u v x y n => .alt (.say (.bin .leq 3 (.pv u) (.pv v) (.pv bt)) (x n)) (.say (.bin .leq 3 (.pv u) (.pv v) (.pv bf)) (y n))
  N9 := fun u v x y n => .alt (.say (.bin .neq 9 (.pv u) (.pv v) (.pv bt)) (x n)) (.say (.bin .neq 9 (.pv u) (.pv v) (.pv bf)) (y n))
  E9 := fun u v x y n => .alt (.say (.bin .eql 9 (.pv u) (.pv v) (.pv bt)) (x n)) (.say (.bin .eql 9 (.pv u) (.pv v) (.pv bf)) (y n))
  A3 := fun u v k n => .say (.bin .add 3 (.pv u) (.pv v) (.pv (.sym n))) (k (.sym n) (n + 1))
  S3 := fun u v k n => .say (.bin .sub 3 (.pv u) (.pv v) (.pv (.sym n))) (k (.sym n) (n + 1))
  L := fun t u k n => .say (.len t (.pv u) (.pv (.sym n))) (k (.sym n) (n + 1))
  P := fun t u x k n => .say (.app t (.pv u) (.pv x) n) (k (.sym n) (n + 1))
  X := fun t u i k n => .say (.idx t (.pv u) (.pv i) (.cptr (k n).1)) (k n).2
  J := fun x y n => .alt (x n) (y n)
  C := fun q p s k n => .call q p s (k n).1 (k n).2
  C0 := fun q p k n => .call q p 0 (k n).1 (k n).2
  D := fun q p s t k l n => .alt (.call q p s (k n).1 (k n).2) (.call q p t (l n).1 (l n).2)
  Q0 := fun q p x y n => .alt (.call q p 0 [bt] (x n)) (.call q p 0 [bf] (y n))
  O := fun s p n => .out s p
  O0 := fun p n => .out 0 p
  Y := fun q p n => .goto q p
  z := fun x n => ([], x n)
  ms := fun p k n => (p ++ (k n).1, (k n).2)
  mz := fun p x n => (p, x n)
  v1 := fun k n => ([.sym n] ++ (k (.sym n) (n + 1)).1, (k (.sym n) (n + 1)).2)
  w1 := fun k n => ([.sym n], k (.sym n) (n + 1))
noncomputable instance : R Sm where
  U := Su
  TW := fun b t u v x y O => bA b t u v (x O) (y O)
  E3 := fun u v x y O => bA .eql 3 u v (x O) (y O)
  L3 := fun u v x y O => bA .lss 3 u v (x O) (y O)
  N3 := fun u v x y O => bA .neq 3 u v (x O) (y O)
  G3 := fun u v x y O => bA .gtr 3 u v (x O) (y O)
  K3 := fun u v x y O => bA .leq 3 u v (x O) (y O)
  N9 := fun u v x y O => bA .neq 9 u v (x O) (y O)
  E9 := fun u v x y O => bA .eql 9 u v (x O) (y O)
  A3 := fun u v k O => bV .add 3 u v fun y => k y O
  S3 := fun u v k O => bV .sub 3 u v fun y => k y O
  L := fun t u k O => lV t u fun y => k y O
  P := fun t u x k O => appK PG .fail t (.pv u) (.pv x) fun y => k y O
  X := fun t u i k O => xV t u i fun s => k O s
  J := fun x y O => Res.alt (x O) (y O)
  C := fun q p s k O => callK (O ⟨q, p⟩) s fun s => k O s
  C0 := fun q p k O => callK (O ⟨q, p⟩) 0 fun s => k O s
  D := fun q p s t k l O => cA (O ⟨q, p⟩) s t (fun s => k O s) fun s => l O s
  Q0 := fun q p x y O => cA (O ⟨q, p⟩) 0 0 (fun s => cI s bt fun s => cN s (x O)) fun s => cI s bf fun s => cN s (y O)
  O := fun s p O => .ok (s, p)
  O0 := fun p O => .ok (0, p)
  Y := fun q p O => passK (O ⟨q, p⟩)
  z := fun x O s => cN s (x O)
  ms := fun p k O s => cL p s (k O)
  mz := fun p x O s => cL p s fun s => cN s (x O)
  v1 := fun k O s => cC s fun av s => k av O s
  w1 := fun k O s => cC s fun av s => cN s (k av O)
@[simp ↓] theorem m_TW {b : BinOp} {t : TypeId} {u v : PV} {x y : Sm} {O} : R.TW (T := Sm) b t u v x y O = bA b t u v (x O) (y O) := rfl
@[simp ↓] theorem m_E3 {u v : PV} {x y : Sm} {O} : R.E3 (T := Sm) u v x y O = bA .eql 3 u v (x O) (y O) := rfl
@[simp ↓] theorem m_L3 {u v : PV} {x y : Sm} {O} : R.L3 (T := Sm) u v x y O = bA .lss 3 u v (x O) (y O) := rfl
@[simp ↓] theorem m_N3 {u v : PV} {x y : Sm} {O} : R.N3 (T := Sm) u v x y O = bA .neq 3 u v (x O) (y O) := rfl
@[simp ↓] theorem m_G3 {u v : PV} {x y : Sm} {O} : R.G3 (T := Sm) u v x y O = bA .gtr 3 u v (x O) (y O) := rfl
@[simp ↓] theorem m_K3 {u v : PV} {x y : Sm} {O} : R.K3 (T := Sm) u v x y O = bA .leq 3 u v (x O) (y O) := rfl
@[simp ↓] theorem m_N9 {u v : PV} {x y : Sm} {O} : R.N9 (T := Sm) u v x y O = bA .neq 9 u v (x O) (y O) := rfl
@[simp ↓] theorem m_E9 {u v : PV} {x y : Sm} {O} : R.E9 (T := Sm) u v x y O = bA .eql 9 u v (x O) (y O) := rfl
@[simp ↓] theorem m_A3 {u v : PV} {k : PV → Sm} {O} : R.A3 (T := Sm) u v k O = bV .add 3 u v fun y => k y O := rfl
@[simp ↓] theorem m_S3 {u v : PV} {k : PV → Sm} {O} : R.S3 (T := Sm) u v k O = bV .sub 3 u v fun y => k y O := rfl
@[simp ↓] theorem m_L {t : TypeId} {u : PV} {k : PV → Sm} {O} : R.L (T := Sm) t u k O = lV t u fun y => k y O := rfl
@[simp ↓] theorem m_P {t : TypeId} {u x : PV} {k : PV → Sm} {O} : R.P (T := Sm) t u x k O = appK PG .fail t (.pv u) (.pv x) fun y => k y O := rfl
@[simp ↓] theorem m_X {t : TypeId} {u i : PV} {k : Su} {O} : R.X (T := Sm) t u i k O = xV t u i fun s => k O s := rfl
@[simp ↓] theorem m_J {x y : Sm} {O} : R.J (T := Sm) x y O = Res.alt (x O) (y O) := rfl
@[simp ↓] theorem m_C {q : Nat} {p : List PV} {s : Nat} {k : Su} {O} : R.C (T := Sm) q p s k O = callK (O ⟨q, p⟩) s fun s => k O s := rfl
@[simp ↓] theorem m_C0 {q : Nat} {p : List PV} {k : Su} {O} : R.C0 (T := Sm) q p k O = callK (O ⟨q, p⟩) 0 fun s => k O s := rfl
@[simp ↓] theorem m_D {q : Nat} {p : List PV} {s t : Nat} {k l : Su} {O} : R.D (T := Sm) q p s t k l O = cA (O ⟨q, p⟩) s t (fun s => k O s) fun s => l O s := rfl
@[simp ↓] theorem m_Q0 {q : Nat} {p : List PV} {x y : Sm} {O} : R.Q0 (T := Sm) q p x y O = cA (O ⟨q, p⟩) 0 0 (fun s => cI s bt fun s => cN s (x O)) fun s => cI s bf fun s => cN s (y O) := rfl
@[simp ↓] theorem m_O {s : Nat} {p : List PV} {O} : R.O (T := Sm) s p O = .ok (s, p) := rfl
@[simp ↓] theorem m_O0 {p : List PV} {O} : R.O0 (T := Sm) p O = .ok (0, p) := rfl
@[simp ↓] theorem m_Y {q : Nat} {p : List PV} {O} : R.Y (T := Sm) q p O = passK (O ⟨q, p⟩) := rfl
@[simp ↓] theorem m_z {x : Sm} {O} {s : List PV} : R.z (T := Sm) x O s = cN s (x O) := rfl
@[simp ↓] theorem m_ms {p : List PV} {k : Su} {O} {s : List PV} : R.ms (T := Sm) p k O s = cL p s (k O) := rfl
@[simp ↓] theorem m_mz {p : List PV} {x : Sm} {O} {s : List PV} : R.mz (T := Sm) p x O s = cL p s fun s => cN s (x O) := rfl
@[simp ↓] theorem m_v1 {k : PV → Su} {O} {s : List PV} : R.v1 (T := Sm) k O s = cC s fun av s => k av O s := rfl
@[simp ↓] theorem m_w1 {k : PV → Sm} {O} {s : List PV} : R.w1 (T := Sm) k O s = cC s fun av s => cN s (k av O) := rfl
section
open R
variable {T : Type} [R T]
def g5 (a b c d e f g h i j k l m : PV) : T := A3 m i1 fun n=>C0 1 [a,b,c,d,e,f,g,h,i,j,k,l,n] (w1 fun o=>K3 o m (O0 [bt]) (O0 [bf]))
def g16 (a b c d e f g h i j k l m : PV) : T := C0 5 [h] (w1 fun n=>A3 i1 n fun o=>C0 5 [(.rows [[d,e,f,g]])] (w1 fun p=>A3 o p fun q=>C0 2 [i0,q,m,a,b,c,d,e,f,g,h,i,j,k,l] (ms [a,b,c,d,e,f,g,h,i,j,k,l] (v1 fun r=>mz [m] (C0 3 [i0,r,m,a,b,c,d,e,f,g,h,i,j,k,l] (ms [a,b,c,d,e,f,g,h,i,j,k,l] (v1 fun s=>mz [m] (C0 4 [i0,s,m,a,b,c,d,e,f,g,h,i,j,k,l] (ms [a,b,c,d,e,f,g,h,i,j,k,l] (w1 fun t=>O0 [t]))))))))))
def g16b0a (a b c d e f g h i j k l m n o : PV) : T := L 25 l fun p=>L3 a p (L3 b c (X 25 l a (w12 fun q r s t u v w x y z a0 b0=>S3 c b fun c0=>C0 1 [q,r,s,t,u,v,w,x,y,z,a0,b0,c0] (w1 fun d0=>A3 b d0 fun f0=>A3 a i1 fun g0=>Y 2 [g0,f0,c,d,e,f,g,h,i,j,k,l,m,n,o]))) (O0 [d,e,f,g,h,i,j,k,l,m,n,o,b,c])) (O0 [d,e,f,g,h,i,j,k,l,m,n,o,b,c])
def g16b2a (a b c d e f g h i j k l m n o : PV) : T := L 26 m fun p=>L3 a p (L3 b c (X 26 m a (w17 fun q r s t u v w x y z a0 b0 c0 d0 f0 g0 h0=>S3 c b fun j0=>L 54 t fun k0=>C0 1 [v,w,x,y,z,a0,b0,c0,d0,f0,g0,h0,j0] (w1 fun l0=>A3 i1 l0 fun m0=>A3 m0 k0 fun n0=>A3 b n0 fun o0=>A3 a i1 fun p0=>Y 3 [p0,o0,c,d,e,f,g,h,i,j,k,l,m,n,o]))) (O0 [d,e,f,g,h,i,j,k,l,m,n,o,b,c])) (O0 [d,e,f,g,h,i,j,k,l,m,n,o,b,c])
def g16b4a (a b c d e f g h i j k l m n o : PV) : T := L 27 n fun p=>L3 a p (L3 b c (X 27 n a (w16 fun q r s t u v w x y z a0 b0 c0 d0 f0 g0=>S3 c b fun h0=>L 65 r fun j0=>C0 1 [t,u,v,w,x,y,z,a0,b0,c0,d0,f0,h0] (w1 fun k0=>A3 i1 k0 fun l0=>A3 l0 j0 fun m0=>C0 7 [s] (w1 fun n0=>A3 m0 n0 fun o0=>A3 b o0 fun p0=>A3 a i1 fun q0=>Y 4 [q0,p0,c,d,e,f,g,h,i,j,k,l,m,n,o])))) (O0 [d,e,f,g,h,i,j,k,l,m,n,o,b])) (O0 [d,e,f,g,h,i,j,k,l,m,n,o,b])
def g27 (a : PV) : T := L 22 a fun b=>D 6 [i0,b,a,i0] 1 0 (w1 fun c=>O0 [c]) (w1 fun c=>O0 [c])
def g27b0a (a b c d : PV) : T := L3 a b (X 22 c a (w4 fun e f g h=>Q0 9 [e,f,g,h,(iv 60)] (A3 d i1 fun i=>A3 a i1 fun j=>Y 6 [j,b,c,i]) (O0 [(iv 10000)]))) (O 1 [d])
def g28 (a : PV) : T := L 66 a fun b=>C0 8 [i0,b,a,i0] (w1 fun c=>O0 [c])
def g28b0a (a b c d : PV) : T := L3 a b (X 66 c a (w5 fun e f g h i=>C0 5 [(.rows [[f,g,h,i]])] (w1 fun j=>A3 d j fun k=>A3 a i1 fun l=>Y 8 [l,b,c,k]))) (O0 [d])
def g67 (a b c d e : PV) : T := A3 e i1 fun f=>C0 10 [a,b,c,d,f] (w1 fun g=>K3 g e (O0 [bt]) (O0 [bf]))
def g123 (a b c d e : PV) : T := E3 a i1 (L 22 d fun f=>G3 f i0 (O0 [e]) (N3 c i0 (O0 [e]) (C0 11 [i0,i1,e,a,b,c,d] (ms [a,b,c,d] (w1 fun g=>O0 [g]))))) (C0 11 [i0,i1,e,a,b,c,d] (ms [a,b,c,d] (w1 fun f=>O0 [f])))
def g123b0a (a b c d e f g : PV) : T := L 22 g fun h=>L3 a h (L3 b c (X 22 g a (w4 fun i j k l=>S3 c b fun m=>C0 10 [i,j,k,l,m] (w1 fun n=>A3 b n fun o=>A3 a i1 fun p=>Y 11 [p,o,c,d,e,f,g]))) (O0 [d,e,f,g,b])) (O0 [d,e,f,g,b])
def g6 (a b c d e f g h i j k l : PV) : T := C0 86 [k] (w1 fun m=>E3 a (iv 12) (L 25 i fun n=>D 13 [i0,n,i,a,b,c,d,e,f,g,m,l,a,b,c,d,e,f,g,h,i,j,k,l] 0 1 (v7 fun o p q r s t u=>ms [nS,nS] (v2 fun v w=>mz [a,b,c,d,e,f,g,h,i,j,k,l,i0,e0,i0,i0,e0,i0,nS,nS,nS,nS,i0] (L 26 j fun x=>D 17 [i0,x,j,o,p,q,r,s,t,u,v,w] 0 1 (v7 fun y z a0 b0 c0 d0 f0=>ms [nS,nS] (v2 fun g0 h0=>mz [i0,e0,i0,i0,e0,i0,nS,nS,nS,nS,i0] (O0 [y,z,a0,b0,c0,d0,f0,nS,nS,g0,h0]))) (v7 fun y z a0 b0 c0 d0 f0=>ms [nS] (v3 fun g0 h0 j0=>mz [i0,e0,i0,i0,e0,i0,nS,nS,nS,nS,i0] (O 1 [y,z,a0,b0,c0,d0,f0,nS,g0,h0,j0])))))) (v8 fun o p q r s t u v=>ms [nS] (v2 fun w x=>mz [a,b,c,d,e,f,g,h,i,j,k,l,i0,e0,i0,i0,e0,i0,nS,nS,nS,nS,i0] (L 26 j fun y=>D 19 [i0,y,j,o,p,q,r,s,t,u,v,w,x] 1 4 (v7 fun z a0 b0 c0 d0 f0 g0=>ms [v,nS] (v2 fun h0 j0=>mz [i0,e0,i0,i0,e0,i0,nS,nS,nS,nS,i0] (O 2 [z,a0,b0,c0,d0,f0,g0,v,nS,h0,j0]))) (v7 fun z a0 b0 c0 d0 f0 g0=>ms [v] (v3 fun h0 j0 k0=>mz [i0,e0,i0,i0,e0,i0,nS,nS,nS,nS,i0] (O 3 [z,a0,b0,c0,d0,f0,g0,v,h0,j0,k0]))))))) (L 25 i fun n=>D 13 [i0,n,i,a,b,c,i0,e0,i0,nS,m,l,a,b,c,d,e,f,g,h,i,j,k,l] 0 1 (v6 fun o p q r s t=>ms [nS,nS,nS] (v2 fun u v=>mz [a,b,c,d,e,f,g,h,i,j,k,l,i0,e0,i0,i0,e0,i0,nS,nS,nS,nS,i0] (L 26 j fun w=>D 17 [i0,w,j,o,p,q,r,s,t,nS,u,v] 0 1 (v6 fun x y z a0 b0 c0=>ms [nS,nS,nS] (v2 fun d0 f0=>mz [i0,e0,i0,i0,e0,i0,nS,nS,nS,nS,i0] (O0 [x,y,z,a0,b0,c0,nS,nS,nS,d0,f0]))) (v6 fun x y z a0 b0 c0=>ms [nS,nS] (v3 fun d0 f0 g0=>mz [i0,e0,i0,i0,e0,i0,nS,nS,nS,nS,i0] (O 1 [x,y,z,a0,b0,c0,nS,nS,d0,f0,g0])))))) (v6 fun o p q r s t=>ms [nS] (v1 fun u=>ms [nS] (v2 fun v w=>mz [a,b,c,d,e,f,g,h,i,j,k,l,i0,e0,i0,i0,e0,i0,nS,nS,nS,nS,i0] (L 26 j fun x=>D 19 [i0,x,j,o,p,q,r,s,t,nS,u,v,w] 1 4 (v6 fun y z a0 b0 c0 d0=>ms [nS,u,nS] (v2 fun f0 g0=>mz [i0,e0,i0,i0,e0,i0,nS,nS,nS,nS,i0] (O 2 [y,z,a0,b0,c0,d0,nS,u,nS,f0,g0]))) (v6 fun y z a0 b0 c0 d0=>ms [nS,u] (v3 fun f0 g0 h0=>mz [i0,e0,i0,i0,e0,i0,nS,nS,nS,nS,i0] (O 3 [y,z,a0,b0,c0,d0,nS,u,f0,g0,h0])))))))))
def g6b0a (a b c d e f g h i j k l m n o p q r s t u v w x : PV) : T := L3 a b (X 25 c a (w12 fun y z a0 b0 c0 d0 f0 g0 h0 j0 k0 l0=>C0 87 [y,z,a0,b0,c0,d0,f0,g0,h0,j0,k0,l0] (w11 fun m0 n0 o0 p0 q0 r0 s0 t0 u0 v0 w0=>A3 a i1 fun x0=>Y 15 [x0,b,c,d,e,f,g,h,i,j,(.rows [[m0,n0,o0,p0,q0,r0,s0,t0,u0,v0,w0]]),k,l,m,n,o,p,q,r,s,t,u,v,w,x]))) (O0 [d,e,f,g,h,i,j,nS,nS,k,l,m,n,o,p,q,r,s,t,u,v,w,x,i0,e0,i0,i0,e0,i0,nS,nS,nS,nS,i0])
def g6b0b (a b c d e f g h i j k l m n o p q r s t u v w : PV) : T := L3 a b (X 25 c a (w12 fun x y z a0 b0 c0 d0 f0 g0 h0 j0 k0=>C0 87 [x,y,z,a0,b0,c0,d0,f0,g0,h0,j0,k0] (w11 fun l0 m0 n0 o0 p0 q0 r0 s0 t0 u0 v0=>A3 a i1 fun w0=>Y 15 [w0,b,c,d,e,f,g,h,i,nS,(.rows [[l0,m0,n0,o0,p0,q0,r0,s0,t0,u0,v0]]),j,k,l,m,n,o,p,q,r,s,t,u,v,w]))) (O0 [d,e,f,g,h,i,nS,nS,nS,j,k,l,m,n,o,p,q,r,s,t,u,v,w,i0,e0,i0,i0,e0,i0,nS,nS,nS,nS,i0])
def g6b0c (a b c d e f g h i j k l m n o p q r s t u v w x y : PV) : T := L3 a b (X 25 c a (w12 fun z a0 b0 c0 d0 f0 g0 h0 j0 k0 l0 m0=>C0 87 [z,a0,b0,c0,d0,f0,g0,h0,j0,k0,l0,m0] (w11 fun n0 o0 p0 q0 r0 s0 t0 u0 v0 w0 x0=>P 32 k (.rows [[n0,o0,p0,q0,r0,s0,t0,u0,v0,w0,x0]]) fun y0=>A3 a i1 fun a1=>Y 15 [a1,b,c,d,e,f,g,h,i,j,y0,l,m,n,o,p,q,r,s,t,u,v,w,x,y]))) (O 1 [d,e,f,g,h,i,j,k,nS,l,m,n,o,p,q,r,s,t,u,v,w,x,y,i0,e0,i0,i0,e0,i0,nS,nS,nS,nS,i0])
def g6b0d (a b c d e f g h i j k l m n o p q r s t u v w x : PV) : T := L3 a b (X 25 c a (w12 fun y z a0 b0 c0 d0 f0 g0 h0 j0 k0 l0=>C0 87 [y,z,a0,b0,c0,d0,f0,g0,h0,j0,k0,l0] (w11 fun m0 n0 o0 p0 q0 r0 s0 t0 u0 v0 w0=>P 32 j (.rows [[m0,n0,o0,p0,q0,r0,s0,t0,u0,v0,w0]]) fun x0=>A3 a i1 fun y0=>Y 15 [y0,b,c,d,e,f,g,h,i,nS,x0,k,l,m,n,o,p,q,r,s,t,u,v,w,x]))) (O 1 [d,e,f,g,h,i,nS,j,nS,k,l,m,n,o,p,q,r,s,t,u,v,w,x,i0,e0,i0,i0,e0,i0,nS,nS,nS,nS,i0])
def g6b2a (a b c d e f g h i j k l : PV) : T := L3 a b (X 26 c a (w17 fun m n o p q r s t u v w x y z a0 b0 c0=>C0 87 [r,s,t,u,v,w,x,y,z,a0,b0,c0] (w11 fun d0 f0 g0 h0 j0 k0 l0 m0 n0 o0 p0=>A3 a i1 fun q0=>Y 29 [q0,b,c,d,e,f,g,h,i,j,(.rows [[m,n,o,p,q,d0,f0,g0,h0,j0,k0,l0,m0,n0,o0,p0]]),k,l]))) (O0 [d,e,f,g,h,i,j,nS,nS,k,l,i0,e0,i0,i0,e0,i0,nS,nS,nS,nS,i0])
def g6b2b (a b c d e f g h i j k l m : PV) : T := L3 a b (X 26 c a (w17 fun n o p q r s t u v w x y z a0 b0 c0 d0=>C0 87 [s,t,u,v,w,x,y,z,a0,b0,c0,d0] (w11 fun f0 g0 h0 j0 k0 l0 m0 n0 o0 p0 q0=>P 33 k (.rows [[n,o,p,q,r,f0,g0,h0,j0,k0,l0,m0,n0,o0,p0,q0]]) fun r0=>A3 a i1 fun s0=>Y 30 [s0,b,c,d,e,f,g,h,i,j,r0,l,m]))) (O0 [d,e,f,g,h,i,j,nS,k,l,m,i0,e0,i0,i0,e0,i0,nS,nS,nS,nS,i0])
def g6b2c (a b c d e f g h i j k l m : PV) : T := L3 a b (X 26 c a (w17 fun n o p q r s t u v w x y z a0 b0 c0 d0=>C0 87 [s,t,u,v,w,x,y,z,a0,b0,c0,d0] (w11 fun f0 g0 h0 j0 k0 l0 m0 n0 o0 p0 q0=>A3 a i1 fun r0=>Y 31 [r0,b,c,d,e,f,g,h,i,j,k,(.rows [[n,o,p,q,r,f0,g0,h0,j0,k0,l0,m0,n0,o0,p0,q0]]),l,m]))) (O 1 [d,e,f,g,h,i,j,k,nS,l,m,i0,e0,i0,i0,e0,i0,nS,nS,nS,nS,i0])
def g6b2d (a b c d e f g h i j k l m n : PV) : T := L3 a b (X 26 c a (w17 fun o p q r s t u v w x y z a0 b0 c0 d0 f0=>C0 87 [t,u,v,w,x,y,z,a0,b0,c0,d0,f0] (w11 fun g0 h0 j0 k0 l0 m0 n0 o0 p0 q0 r0=>P 33 l (.rows [[o,p,q,r,s,g0,h0,j0,k0,l0,m0,n0,o0,p0,q0,r0]]) fun s0=>A3 a i1 fun t0=>Y 32 [t0,b,c,d,e,f,g,h,i,j,k,s0,m,n]))) (O0 [d,e,f,g,h,i,j,k,l,m,n,i0,e0,i0,i0,e0,i0,nS,nS,nS,nS,i0])
def g6b2e (a b c d e f g h i j k : PV) : T := L3 a b (X 26 c a (w17 fun l m n o p q r s t u v w x y z a0 b0=>C0 87 [q,r,s,t,u,v,w,x,y,z,a0,b0] (w11 fun c0 d0 f0 g0 h0 j0 k0 l0 m0 n0 o0=>A3 a i1 fun p0=>Y 29 [p0,b,c,d,e,f,g,h,i,nS,(.rows [[l,m,n,o,p,c0,d0,f0,g0,h0,j0,k0,l0,m0,n0,o0]]),j,k]))) (O0 [d,e,f,g,h,i,nS,nS,nS,j,k,i0,e0,i0,i0,e0,i0,nS,nS,nS,nS,i0])
def g6b2f (a b c d e f g h i j k l : PV) : T := L3 a b (X 26 c a (w17 fun m n o p q r s t u v w x y z a0 b0 c0=>C0 87 [r,s,t,u,v,w,x,y,z,a0,b0,c0] (w11 fun d0 f0 g0 h0 j0 k0 l0 m0 n0 o0 p0=>P 33 j (.rows [[m,n,o,p,q,d0,f0,g0,h0,j0,k0,l0,m0,n0,o0,p0]]) fun q0=>A3 a i1 fun r0=>Y 30 [r0,b,c,d,e,f,g,h,i,nS,q0,k,l]))) (O0 [d,e,f,g,h,i,nS,nS,j,k,l,i0,e0,i0,i0,e0,i0,nS,nS,nS,nS,i0])
def g6b2g (a b c d e f g h i j k l : PV) : T := L3 a b (X 26 c a (w17 fun m n o p q r s t u v w x y z a0 b0 c0=>C0 87 [r,s,t,u,v,w,x,y,z,a0,b0,c0] (w11 fun d0 f0 g0 h0 j0 k0 l0 m0 n0 o0 p0=>A3 a i1 fun q0=>Y 31 [q0,b,c,d,e,f,g,h,i,nS,j,(.rows [[m,n,o,p,q,d0,f0,g0,h0,j0,k0,l0,m0,n0,o0,p0]]),k,l]))) (O 1 [d,e,f,g,h,i,nS,j,nS,k,l,i0,e0,i0,i0,e0,i0,nS,nS,nS,nS,i0])
def g6b2h (a b c d e f g h i j k l m : PV) : T := L3 a b (X 26 c a (w17 fun n o p q r s t u v w x y z a0 b0 c0 d0=>C0 87 [s,t,u,v,w,x,y,z,a0,b0,c0,d0] (w11 fun f0 g0 h0 j0 k0 l0 m0 n0 o0 p0 q0=>P 33 k (.rows [[n,o,p,q,r,f0,g0,h0,j0,k0,l0,m0,n0,o0,p0,q0]]) fun r0=>A3 a i1 fun s0=>Y 32 [s0,b,c,d,e,f,g,h,i,nS,j,r0,l,m]))) (O0 [d,e,f,g,h,i,nS,j,k,l,m,i0,e0,i0,i0,e0,i0,nS,nS,nS,nS,i0])
def g6b2i (a b c d e f g h i j k l : PV) : T := L3 a b (X 26 c a (w17 fun m n o p q r s t u v w x y z a0 b0 c0=>C0 87 [r,s,t,u,v,w,x,y,z,a0,b0,c0] (w11 fun d0 f0 g0 h0 j0 k0 l0 m0 n0 o0 p0=>A3 a i1 fun q0=>Y 37 [q0,b,c,d,e,f,g,h,i,j,(.rows [[m,n,o,p,q,d0,f0,g0,h0,j0,k0,l0,m0,n0,o0,p0]]),k,l]))) (O 2 [d,e,f,g,h,i,j,nS,nS,k,l,i0,e0,i0,i0,e0,i0,nS,nS,nS,nS,i0])
def g6b2j (a b c d e f g h i j k l m : PV) : T := L3 a b (X 26 c a (w17 fun n o p q r s t u v w x y z a0 b0 c0 d0=>C0 87 [s,t,u,v,w,x,y,z,a0,b0,c0,d0] (w11 fun f0 g0 h0 j0 k0 l0 m0 n0 o0 p0 q0=>P 33 k (.rows [[n,o,p,q,r,f0,g0,h0,j0,k0,l0,m0,n0,o0,p0,q0]]) fun r0=>A3 a i1 fun s0=>Y 38 [s0,b,c,d,e,f,g,h,i,j,r0,l,m]))) (O 1 [d,e,f,g,h,i,j,nS,k,l,m,i0,e0,i0,i0,e0,i0,nS,nS,nS,nS,i0])
def g6b2k (a b c d e f g h i j k l m : PV) : T := L3 a b (X 26 c a (w17 fun n o p q r s t u v w x y z a0 b0 c0 d0=>C0 87 [s,t,u,v,w,x,y,z,a0,b0,c0,d0] (w11 fun f0 g0 h0 j0 k0 l0 m0 n0 o0 p0 q0=>A3 a i1 fun r0=>Y 39 [r0,b,c,d,e,f,g,h,i,j,k,(.rows [[n,o,p,q,r,f0,g0,h0,j0,k0,l0,m0,n0,o0,p0,q0]]),l,m]))) (O 2 [d,e,f,g,h,i,j,k,nS,l,m,i0,e0,i0,i0,e0,i0,nS,nS,nS,nS,i0])
def g6b2l (a b c d e f g h i j k l m n : PV) : T := L3 a b (X 26 c a (w17 fun o p q r s t u v w x y z a0 b0 c0 d0 f0=>C0 87 [t,u,v,w,x,y,z,a0,b0,c0,d0,f0] (w11 fun g0 h0 j0 k0 l0 m0 n0 o0 p0 q0 r0=>P 33 l (.rows [[o,p,q,r,s,g0,h0,j0,k0,l0,m0,n0,o0,p0,q0,r0]]) fun s0=>A3 a i1 fun t0=>Y 40 [t0,b,c,d,e,f,g,h,i,j,k,s0,m,n]))) (O0 [d,e,f,g,h,i,j,k,l,m,n,i0,e0,i0,i0,e0,i0,nS,nS,nS,nS,i0])
def g6b2m (a b c d e f g h i j k l m : PV) : T := L3 a b (X 26 c a (w17 fun n o p q r s t u v w x y z a0 b0 c0 d0=>C0 87 [s,t,u,v,w,x,y,z,a0,b0,c0,d0] (w11 fun f0 g0 h0 j0 k0 l0 m0 n0 o0 p0 q0=>P 33 k (.rows [[n,o,p,q,r,f0,g0,h0,j0,k0,l0,m0,n0,o0,p0,q0]]) fun r0=>A3 a i1 fun s0=>Y 29 [s0,b,c,d,e,f,g,h,i,j,r0,l,m]))) (O 1 [d,e,f,g,h,i,j,nS,k,l,m,i0,e0,i0,i0,e0,i0,nS,nS,nS,nS,i0])
def g6b2n (a b c d e f g h i j k l m : PV) : T := L3 a b (X 26 c a (w17 fun n o p q r s t u v w x y z a0 b0 c0 d0=>C0 87 [s,t,u,v,w,x,y,z,a0,b0,c0,d0] (w11 fun f0 g0 h0 j0 k0 l0 m0 n0 o0 p0 q0=>P 33 k (.rows [[n,o,p,q,r,f0,g0,h0,j0,k0,l0,m0,n0,o0,p0,q0]]) fun r0=>A3 a i1 fun s0=>Y 30 [s0,b,c,d,e,f,g,h,i,j,r0,l,m]))) (O 3 [d,e,f,g,h,i,j,nS,k,l,m,i0,e0,i0,i0,e0,i0,nS,nS,nS,nS,i0])
def g6b2o (a b c d e f g h i j k l m n : PV) : T := L3 a b (X 26 c a (w17 fun o p q r s t u v w x y z a0 b0 c0 d0 f0=>C0 87 [t,u,v,w,x,y,z,a0,b0,c0,d0,f0] (w11 fun g0 h0 j0 k0 l0 m0 n0 o0 p0 q0 r0=>P 33 l (.rows [[o,p,q,r,s,g0,h0,j0,k0,l0,m0,n0,o0,p0,q0,r0]]) fun s0=>A3 a i1 fun t0=>Y 31 [t0,b,c,d,e,f,g,h,i,j,k,s0,m,n]))) (O 4 [d,e,f,g,h,i,j,k,l,m,n,i0,e0,i0,i0,e0,i0,nS,nS,nS,nS,i0])
def g6b2p (a b c d e f g h i j k l m n : PV) : T := L3 a b (X 26 c a (w17 fun o p q r s t u v w x y z a0 b0 c0 d0 f0=>C0 87 [t,u,v,w,x,y,z,a0,b0,c0,d0,f0] (w11 fun g0 h0 j0 k0 l0 m0 n0 o0 p0 q0 r0=>P 33 l (.rows [[o,p,q,r,s,g0,h0,j0,k0,l0,m0,n0,o0,p0,q0,r0]]) fun s0=>A3 a i1 fun t0=>Y 32 [t0,b,c,d,e,f,g,h,i,j,k,s0,m,n]))) (O 3 [d,e,f,g,h,i,j,k,l,m,n,i0,e0,i0,i0,e0,i0,nS,nS,nS,nS,i0])
def g6b2q (a b c d e f g h i j k l : PV) : T := L3 a b (X 26 c a (w17 fun m n o p q r s t u v w x y z a0 b0 c0=>C0 87 [r,s,t,u,v,w,x,y,z,a0,b0,c0] (w11 fun d0 f0 g0 h0 j0 k0 l0 m0 n0 o0 p0=>P 33 j (.rows [[m,n,o,p,q,d0,f0,g0,h0,j0,k0,l0,m0,n0,o0,p0]]) fun q0=>A3 a i1 fun r0=>Y 29 [r0,b,c,d,e,f,g,h,i,nS,q0,k,l]))) (O 1 [d,e,f,g,h,i,nS,nS,j,k,l,i0,e0,i0,i0,e0,i0,nS,nS,nS,nS,i0])
def g6b2r (a b c d e f g h i j k l : PV) : T := L3 a b (X 26 c a (w17 fun m n o p q r s t u v w x y z a0 b0 c0=>C0 87 [r,s,t,u,v,w,x,y,z,a0,b0,c0] (w11 fun d0 f0 g0 h0 j0 k0 l0 m0 n0 o0 p0=>P 33 j (.rows [[m,n,o,p,q,d0,f0,g0,h0,j0,k0,l0,m0,n0,o0,p0]]) fun q0=>A3 a i1 fun r0=>Y 30 [r0,b,c,d,e,f,g,h,i,nS,q0,k,l]))) (O 3 [d,e,f,g,h,i,nS,nS,j,k,l,i0,e0,i0,i0,e0,i0,nS,nS,nS,nS,i0])
def g6b2s (a b c d e f g h i j k l m : PV) : T := L3 a b (X 26 c a (w17 fun n o p q r s t u v w x y z a0 b0 c0 d0=>C0 87 [s,t,u,v,w,x,y,z,a0,b0,c0,d0] (w11 fun f0 g0 h0 j0 k0 l0 m0 n0 o0 p0 q0=>P 33 k (.rows [[n,o,p,q,r,f0,g0,h0,j0,k0,l0,m0,n0,o0,p0,q0]]) fun r0=>A3 a i1 fun s0=>Y 31 [s0,b,c,d,e,f,g,h,i,nS,j,r0,l,m]))) (O 4 [d,e,f,g,h,i,nS,j,k,l,m,i0,e0,i0,i0,e0,i0,nS,nS,nS,nS,i0])
def g6b2t (a b c d e f g h i j k l m : PV) : T := L3 a b (X 26 c a (w17 fun n o p q r s t u v w x y z a0 b0 c0 d0=>C0 87 [s,t,u,v,w,x,y,z,a0,b0,c0,d0] (w11 fun f0 g0 h0 j0 k0 l0 m0 n0 o0 p0 q0=>P 33 k (.rows [[n,o,p,q,r,f0,g0,h0,j0,k0,l0,m0,n0,o0,p0,q0]]) fun r0=>A3 a i1 fun s0=>Y 32 [s0,b,c,d,e,f,g,h,i,nS,j,r0,l,m]))) (O 3 [d,e,f,g,h,i,nS,j,k,l,m,i0,e0,i0,i0,e0,i0,nS,nS,nS,nS,i0])
def g6b2u (a b c d e f g h i j k l m : PV) : T := L3 a b (X 26 c a (w17 fun n o p q r s t u v w x y z a0 b0 c0 d0=>C0 87 [s,t,u,v,w,x,y,z,a0,b0,c0,d0] (w11 fun f0 g0 h0 j0 k0 l0 m0 n0 o0 p0 q0=>P 33 k (.rows [[n,o,p,q,r,f0,g0,h0,j0,k0,l0,m0,n0,o0,p0,q0]]) fun r0=>A3 a i1 fun s0=>Y 37 [s0,b,c,d,e,f,g,h,i,j,r0,l,m]))) (O 5 [d,e,f,g,h,i,j,nS,k,l,m,i0,e0,i0,i0,e0,i0,nS,nS,nS,nS,i0])
def g6b2v (a b c d e f g h i j k l m : PV) : T := L3 a b (X 26 c a (w17 fun n o p q r s t u v w x y z a0 b0 c0 d0=>C0 87 [s,t,u,v,w,x,y,z,a0,b0,c0,d0] (w11 fun f0 g0 h0 j0 k0 l0 m0 n0 o0 p0 q0=>P 33 k (.rows [[n,o,p,q,r,f0,g0,h0,j0,k0,l0,m0,n0,o0,p0,q0]]) fun r0=>A3 a i1 fun s0=>Y 38 [s0,b,c,d,e,f,g,h,i,j,r0,l,m]))) (O 4 [d,e,f,g,h,i,j,nS,k,l,m,i0,e0,i0,i0,e0,i0,nS,nS,nS,nS,i0])
def g6b2w (a b c d e f g h i j k l m n : PV) : T := L3 a b (X 26 c a (w17 fun o p q r s t u v w x y z a0 b0 c0 d0 f0=>C0 87 [t,u,v,w,x,y,z,a0,b0,c0,d0,f0] (w11 fun g0 h0 j0 k0 l0 m0 n0 o0 p0 q0 r0=>P 33 l (.rows [[o,p,q,r,s,g0,h0,j0,k0,l0,m0,n0,o0,p0,q0,r0]]) fun s0=>A3 a i1 fun t0=>Y 39 [t0,b,c,d,e,f,g,h,i,j,k,s0,m,n]))) (O 5 [d,e,f,g,h,i,j,k,l,m,n,i0,e0,i0,i0,e0,i0,nS,nS,nS,nS,i0])
def g6b2x (a b c d e f g h i j k l m n : PV) : T := L3 a b (X 26 c a (w17 fun o p q r s t u v w x y z a0 b0 c0 d0 f0=>C0 87 [t,u,v,w,x,y,z,a0,b0,c0,d0,f0] (w11 fun g0 h0 j0 k0 l0 m0 n0 o0 p0 q0 r0=>P 33 l (.rows [[o,p,q,r,s,g0,h0,j0,k0,l0,m0,n0,o0,p0,q0,r0]]) fun s0=>A3 a i1 fun t0=>Y 40 [t0,b,c,d,e,f,g,h,i,j,k,s0,m,n]))) (O 1 [d,e,f,g,h,i,j,k,l,m,n,i0,e0,i0,i0,e0,i0,nS,nS,nS,nS,i0])
def g10 (a : PV) : T := L 27 a fun b=>D 42 [i0,b,a] 0 1 (mz [nS] (O0 [nS])) (w1 fun c=>O 1 [c])
def g10b0a (a b c : PV) : T := L3 a b (X 27 c a (w16 fun d e f g h i j k l m n o p q r s=>C0 87 [g,h,i,j,k,l,m,n,o,p,q,r] (w11 fun t u v w x y z a0 b0 c0 d0=>A3 a i1 fun f0=>Y 43 [f0,b,c,(.rows [[d,t,u,v,w,x,y,z,a0,b0,c0,d0,s]])]))) (O0 [nS])
def g10b0b (a b c d : PV) : T := L3 a b (X 27 c a (w16 fun e f g h i j k l m n o p q r s t=>C0 87 [h,i,j,k,l,m,n,o,p,q,r,s] (w11 fun u v w x y z a0 b0 c0 d0 f0=>P 34 d (.rows [[e,u,v,w,x,y,z,a0,b0,c0,d0,f0,t]]) fun g0=>A3 a i1 fun h0=>Y 43 [h0,b,c,g0]))) (O 1 [d])
def g7 (a b c d e f g h i j k l : PV) : T := C0 88 [k] (w1 fun m=>E3 a (iv 12) (D 45 [i0,a,b,c,d,e,f,g,h,i,j,k,l,a,b,c,d,e,f,g,m,l] 0 1 (ms [a,b,c,d,e,f,g,h,i,j,k,l] (v7 fun n o p q r s t=>ms [nS,nS] (v2 fun u v=>mz [i0,e0,i0,i0,e0,i0,nS,nS,nS,nS,i0] (D 49 [i0,a,b,c,d,e,f,g,h,i,j,k,l,n,o,p,q,r,s,t,u,v] 0 1 (ms [a,b,c,d,e,f,g,h,i,j,k,l] (v7 fun w x y z a0 b0 c0=>ms [nS,nS] (v2 fun d0 f0=>mz [i0,e0,i0,i0,e0,i0,nS,nS,nS,nS,i0] (O0 [w,x,y,z,a0,b0,c0,nS,nS,d0,f0])))) (ms [a,b,c,d,e,f,g,h,i,j,k,l] (v7 fun w x y z a0 b0 c0=>ms [nS] (v3 fun d0 f0 g0=>mz [i0,e0,i0,i0,e0,i0,nS,nS,nS,nS,i0] (O 1 [w,x,y,z,a0,b0,c0,nS,d0,f0,g0])))))))) (ms [a,b,c,d,e,f,g,h,i,j,k,l] (v8 fun n o p q r s t u=>ms [nS] (v2 fun v w=>mz [i0,e0,i0,i0,e0,i0,nS,nS,nS,nS,i0] (D 51 [i0,a,b,c,d,e,f,g,h,i,j,k,l,n,o,p,q,r,s,t,u,v,w] 1 4 (ms [a,b,c,d,e,f,g,h,i,j,k,l] (v7 fun x y z a0 b0 c0 d0=>ms [u,nS] (v2 fun f0 g0=>mz [i0,e0,i0,i0,e0,i0,nS,nS,nS,nS,i0] (O 2 [x,y,z,a0,b0,c0,d0,u,nS,f0,g0])))) (ms [a,b,c,d,e,f,g,h,i,j,k,l] (v7 fun x y z a0 b0 c0 d0=>ms [u] (v3 fun f0 g0 h0=>mz [i0,e0,i0,i0,e0,i0,nS,nS,nS,nS,i0] (O 3 [x,y,z,a0,b0,c0,d0,u,f0,g0,h0]))))))))) (D 45 [i0,a,b,c,d,e,f,g,h,i,j,k,l,a,b,c,i0,e0,i0,nS,m,l] 0 1 (ms [a,b,c,d,e,f,g,h,i,j,k,l] (v6 fun n o p q r s=>ms [nS,nS,nS] (v2 fun t u=>mz [i0,e0,i0,i0,e0,i0,nS,nS,nS,nS,i0] (D 49 [i0,a,b,c,d,e,f,g,h,i,j,k,l,n,o,p,q,r,s,nS,t,u] 0 1 (ms [a,b,c,d,e,f,g,h,i,j,k,l] (v6 fun v w x y z a0=>ms [nS,nS,nS] (v2 fun b0 c0=>mz [i0,e0,i0,i0,e0,i0,nS,nS,nS,nS,i0] (O0 [v,w,x,y,z,a0,nS,nS,nS,b0,c0])))) (ms [a,b,c,d,e,f,g,h,i,j,k,l] (v6 fun v w x y z a0=>ms [nS,nS] (v3 fun b0 c0 d0=>mz [i0,e0,i0,i0,e0,i0,nS,nS,nS,nS,i0] (O 1 [v,w,x,y,z,a0,nS,nS,b0,c0,d0])))))))) (ms [a,b,c,d,e,f,g,h,i,j,k,l] (v6 fun n o p q r s=>ms [nS] (v1 fun t=>ms [nS] (v2 fun u v=>mz [i0,e0,i0,i0,e0,i0,nS,nS,nS,nS,i0] (D 51 [i0,a,b,c,d,e,f,g,h,i,j,k,l,n,o,p,q,r,s,nS,t,u,v] 1 4 (ms [a,b,c,d,e,f,g,h,i,j,k,l] (v6 fun w x y z a0 b0=>ms [nS,t,nS] (v2 fun c0 d0=>mz [i0,e0,i0,i0,e0,i0,nS,nS,nS,nS,i0] (O 2 [w,x,y,z,a0,b0,nS,t,nS,c0,d0])))) (ms [a,b,c,d,e,f,g,h,i,j,k,l] (v6 fun w x y z a0 b0=>ms [nS,t] (v3 fun c0 d0 f0=>mz [i0,e0,i0,i0,e0,i0,nS,nS,nS,nS,i0] (O 3 [w,x,y,z,a0,b0,nS,t,c0,d0,f0])))))))))))
def g7b0a (a b c d e f g h i j k l m n o p q r s t u v : PV) : T := L 25 j fun w=>L3 a w (X 25 j a (w12 fun x y z a0 b0 c0 d0 f0 g0 h0 j0 k0=>C0 89 [x,y,z,a0,b0,c0,d0,f0,g0,h0,j0,k0] (w11 fun l0 m0 n0 o0 p0 q0 r0 s0 t0 u0 v0=>A3 a i1 fun w0=>Y 47 [w0,b,c,d,e,f,g,h,i,j,k,l,m,n,o,p,q,r,s,t,(.rows [[l0,m0,n0,o0,p0,q0,r0,s0,t0,u0,v0]]),u,v]))) (O0 [b,c,d,e,f,g,h,i,j,k,l,m,n,o,p,q,r,s,t,nS,nS,u,v,i0,e0,i0,i0,e0,i0,nS,nS,nS,nS,i0])
def g7b0b (a b c d e f g h i j k l m n o p q r s t u : PV) : T := L 25 j fun v=>L3 a v (X 25 j a (w12 fun w x y z a0 b0 c0 d0 f0 g0 h0 j0=>C0 89 [w,x,y,z,a0,b0,c0,d0,f0,g0,h0,j0] (w11 fun k0 l0 m0 n0 o0 p0 q0 r0 s0 t0 u0=>A3 a i1 fun v0=>Y 47 [v0,b,c,d,e,f,g,h,i,j,k,l,m,n,o,p,q,r,s,nS,(.rows [[k0,l0,m0,n0,o0,p0,q0,r0,s0,t0,u0]]),t,u]))) (O0 [b,c,d,e,f,g,h,i,j,k,l,m,n,o,p,q,r,s,nS,nS,nS,t,u,i0,e0,i0,i0,e0,i0,nS,nS,nS,nS,i0])
def g7b0c (a b c d e f g h i j k l m n o p q r s t u v w : PV) : T := L 25 j fun x=>L3 a x (X 25 j a (w12 fun y z a0 b0 c0 d0 f0 g0 h0 j0 k0 l0=>C0 89 [y,z,a0,b0,c0,d0,f0,g0,h0,j0,k0,l0] (w11 fun m0 n0 o0 p0 q0 r0 s0 t0 u0 v0 w0=>P 32 u (.rows [[m0,n0,o0,p0,q0,r0,s0,t0,u0,v0,w0]]) fun x0=>A3 a i1 fun y0=>Y 47 [y0,b,c,d,e,f,g,h,i,j,k,l,m,n,o,p,q,r,s,t,x0,v,w]))) (O 1 [b,c,d,e,f,g,h,i,j,k,l,m,n,o,p,q,r,s,t,u,nS,v,w,i0,e0,i0,i0,e0,i0,nS,nS,nS,nS,i0])
def g7b0d (a b c d e f g h i j k l m n o p q r s t u v : PV) : T := L 25 j fun w=>L3 a w (X 25 j a (w12 fun x y z a0 b0 c0 d0 f0 g0 h0 j0 k0=>C0 89 [x,y,z,a0,b0,c0,d0,f0,g0,h0,j0,k0] (w11 fun l0 m0 n0 o0 p0 q0 r0 s0 t0 u0 v0=>P 32 t (.rows [[l0,m0,n0,o0,p0,q0,r0,s0,t0,u0,v0]]) fun w0=>A3 a i1 fun x0=>Y 47 [x0,b,c,d,e,f,g,h,i,j,k,l,m,n,o,p,q,r,s,nS,w0,u,v]))) (O 1 [b,c,d,e,f,g,h,i,j,k,l,m,n,o,p,q,r,s,nS,t,nS,u,v,i0,e0,i0,i0,e0,i0,nS,nS,nS,nS,i0])
def g7b2a (a b c d e f g h i j k l m n o p q r s t u v : PV) : T := L 26 k fun w=>L3 a w (X 26 k a (w17 fun x y z a0 b0 c0 d0 f0 g0 h0 j0 k0 l0 m0 n0 o0 p0=>C0 89 [c0,d0,f0,g0,h0,j0,k0,l0,m0,n0,o0,p0] (w11 fun q0 r0 s0 t0 u0 v0 w0 x0 y0 a1 b1=>A3 a i1 fun c1=>Y 61 [c1,b,c,d,e,f,g,h,i,j,k,l,m,n,o,p,q,r,s,t,(.rows [[x,y,z,a0,b0,q0,r0,s0,t0,u0,v0,w0,x0,y0,a1,b1]]),u,v]))) (O0 [b,c,d,e,f,g,h,i,j,k,l,m,n,o,p,q,r,s,t,nS,nS,u,v,i0,e0,i0,i0,e0,i0,nS,nS,nS,nS,i0])
def g7b2b (a b c d e f g h i j k l m n o p q r s t u v w : PV) : T := L 26 k fun x=>L3 a x (X 26 k a (w17 fun y z a0 b0 c0 d0 f0 g0 h0 j0 k0 l0 m0 n0 o0 p0 q0=>C0 89 [d0,f0,g0,h0,j0,k0,l0,m0,n0,o0,p0,q0] (w11 fun r0 s0 t0 u0 v0 w0 x0 y0 a1 b1 c1=>P 33 u (.rows [[y,z,a0,b0,c0,r0,s0,t0,u0,v0,w0,x0,y0,a1,b1,c1]]) fun d1=>A3 a i1 fun e1=>Y 62 [e1,b,c,d,e,f,g,h,i,j,k,l,m,n,o,p,q,r,s,t,d1,v,w]))) (O0 [b,c,d,e,f,g,h,i,j,k,l,m,n,o,p,q,r,s,t,nS,u,v,w,i0,e0,i0,i0,e0,i0,nS,nS,nS,nS,i0])
def g7b2c (a b c d e f g h i j k l m n o p q r s t u v w : PV) : T := L 26 k fun x=>L3 a x (X 26 k a (w17 fun y z a0 b0 c0 d0 f0 g0 h0 j0 k0 l0 m0 n0 o0 p0 q0=>C0 89 [d0,f0,g0,h0,j0,k0,l0,m0,n0,o0,p0,q0] (w11 fun r0 s0 t0 u0 v0 w0 x0 y0 a1 b1 c1=>A3 a i1 fun d1=>Y 63 [d1,b,c,d,e,f,g,h,i,j,k,l,m,n,o,p,q,r,s,t,u,(.rows [[y,z,a0,b0,c0,r0,s0,t0,u0,v0,w0,x0,y0,a1,b1,c1]]),v,w]))) (O 1 [b,c,d,e,f,g,h,i,j,k,l,m,n,o,p,q,r,s,t,u,nS,v,w,i0,e0,i0,i0,e0,i0,nS,nS,nS,nS,i0])
def g7b2d (a b c d e f g h i j k l m n o p q r s t u v w x : PV) : T := L 26 k fun y=>L3 a y (X 26 k a (w17 fun z a0 b0 c0 d0 f0 g0 h0 j0 k0 l0 m0 n0 o0 p0 q0 r0=>C0 89 [f0,g0,h0,j0,k0,l0,m0,n0,o0,p0,q0,r0] (w11 fun s0 t0 u0 v0 w0 x0 y0 a1 b1 c1 d1=>P 33 v (.rows [[z,a0,b0,c0,d0,s0,t0,u0,v0,w0,x0,y0,a1,b1,c1,d1]]) fun e1=>A3 a i1 fun f1=>Y 64 [f1,b,c,d,e,f,g,h,i,j,k,l,m,n,o,p,q,r,s,t,u,e1,w,x]))) (O0 [b,c,d,e,f,g,h,i,j,k,l,m,n,o,p,q,r,s,t,u,v,w,x,i0,e0,i0,i0,e0,i0,nS,nS,nS,nS,i0])
def g7b2e (a b c d e f g h i j k l m n o p q r s t u : PV) : T := L 26 k fun v=>L3 a v (X 26 k a (w17 fun w x y z a0 b0 c0 d0 f0 g0 h0 j0 k0 l0 m0 n0 o0=>C0 89 [b0,c0,d0,f0,g0,h0,j0,k0,l0,m0,n0,o0] (w11 fun p0 q0 r0 s0 t0 u0 v0 w0 x0 y0 a1=>A3 a i1 fun b1=>Y 61 [b1,b,c,d,e,f,g,h,i,j,k,l,m,n,o,p,q,r,s,nS,(.rows [[w,x,y,z,a0,p0,q0,r0,s0,t0,u0,v0,w0,x0,y0,a1]]),t,u]))) (O0 [b,c,d,e,f,g,h,i,j,k,l,m,n,o,p,q,r,s,nS,nS,nS,t,u,i0,e0,i0,i0,e0,i0,nS,nS,nS,nS,i0])
def g7b2f (a b c d e f g h i j k l m n o p q r s t u v : PV) : T := L 26 k fun w=>L3 a w (X 26 k a (w17 fun x y z a0 b0 c0 d0 f0 g0 h0 j0 k0 l0 m0 n0 o0 p0=>C0 89 [c0,d0,f0,g0,h0,j0,k0,l0,m0,n0,o0,p0] (w11 fun q0 r0 s0 t0 u0 v0 w0 x0 y0 a1 b1=>P 33 t (.rows [[x,y,z,a0,b0,q0,r0,s0,t0,u0,v0,w0,x0,y0,a1,b1]]) fun c1=>A3 a i1 fun d1=>Y 62 [d1,b,c,d,e,f,g,h,i,j,k,l,m,n,o,p,q,r,s,nS,c1,u,v]))) (O0 [b,c,d,e,f,g,h,i,j,k,l,m,n,o,p,q,r,s,nS,nS,t,u,v,i0,e0,i0,i0,e0,i0,nS,nS,nS,nS,i0])
def g7b2g (a b c d e f g h i j k l m n o p q r s t u v : PV) : T := L 26 k fun w=>L3 a w (X 26 k a (w17 fun x y z a0 b0 c0 d0 f0 g0 h0 j0 k0 l0 m0 n0 o0 p0=>C0 89 [c0,d0,f0,g0,h0,j0,k0,l0,m0,n0,o0,p0] (w11 fun q0 r0 s0 t0 u0 v0 w0 x0 y0 a1 b1=>A3 a i1 fun c1=>Y 63 [c1,b,c,d,e,f,g,h,i,j,k,l,m,n,o,p,q,r,s,nS,t,(.rows [[x,y,z,a0,b0,q0,r0,s0,t0,u0,v0,w0,x0,y0,a1,b1]]),u,v]))) (O 1 [b,c,d,e,f,g,h,i,j,k,l,m,n,o,p,q,r,s,nS,t,nS,u,v,i0,e0,i0,i0,e0,i0,nS,nS,nS,nS,i0])
def g7b2h (a b c d e f g h i j k l m n o p q r s t u v w : PV) : T := L 26 k fun x=>L3 a x (X 26 k a (w17 fun y z a0 b0 c0 d0 f0 g0 h0 j0 k0 l0 m0 n0 o0 p0 q0=>C0 89 [d0,f0,g0,h0,j0,k0,l0,m0,n0,o0,p0,q0] (w11 fun r0 s0 t0 u0 v0 w0 x0 y0 a1 b1 c1=>P 33 u (.rows [[y,z,a0,b0,c0,r0,s0,t0,u0,v0,w0,x0,y0,a1,b1,c1]]) fun d1=>A3 a i1 fun e1=>Y 64 [e1,b,c,d,e,f,g,h,i,j,k,l,m,n,o,p,q,r,s,nS,t,d1,v,w]))) (O0 [b,c,d,e,f,g,h,i,j,k,l,m,n,o,p,q,r,s,nS,t,u,v,w,i0,e0,i0,i0,e0,i0,nS,nS,nS,nS,i0])
def g7b2i (a b c d e f g h i j k l m n o p q r s t u v : PV) : T := L 26 k fun w=>L3 a w (X 26 k a (w17 fun x y z a0 b0 c0 d0 f0 g0 h0 j0 k0 l0 m0 n0 o0 p0=>C0 89 [c0,d0,f0,g0,h0,j0,k0,l0,m0,n0,o0,p0] (w11 fun q0 r0 s0 t0 u0 v0 w0 x0 y0 a1 b1=>A3 a i1 fun c1=>Y 69 [c1,b,c,d,e,f,g,h,i,j,k,l,m,n,o,p,q,r,s,t,(.rows [[x,y,z,a0,b0,q0,r0,s0,t0,u0,v0,w0,x0,y0,a1,b1]]),u,v]))) (O 2 [b,c,d,e,f,g,h,i,j,k,l,m,n,o,p,q,r,s,t,nS,nS,u,v,i0,e0,i0,i0,e0,i0,nS,nS,nS,nS,i0])
def g7b2j (a b c d e f g h i j k l m n o p q r s t u v w : PV) : T := L 26 k fun x=>L3 a x (X 26 k a (w17 fun y z a0 b0 c0 d0 f0 g0 h0 j0 k0 l0 m0 n0 o0 p0 q0=>C0 89 [d0,f0,g0,h0,j0,k0,l0,m0,n0,o0,p0,q0] (w11 fun r0 s0 t0 u0 v0 w0 x0 y0 a1 b1 c1=>P 33 u (.rows [[y,z,a0,b0,c0,r0,s0,t0,u0,v0,w0,x0,y0,a1,b1,c1]]) fun d1=>A3 a i1 fun e1=>Y 70 [e1,b,c,d,e,f,g,h,i,j,k,l,m,n,o,p,q,r,s,t,d1,v,w]))) (O 1 [b,c,d,e,f,g,h,i,j,k,l,m,n,o,p,q,r,s,t,nS,u,v,w,i0,e0,i0,i0,e0,i0,nS,nS,nS,nS,i0])
def g7b2k (a b c d e f g h i j k l m n o p q r s t u v w : PV) : T := L 26 k fun x=>L3 a x (X 26 k a (w17 fun y z a0 b0 c0 d0 f0 g0 h0 j0 k0 l0 m0 n0 o0 p0 q0=>C0 89 [d0,f0,g0,h0,j0,k0,l0,m0,n0,o0,p0,q0] (w11 fun r0 s0 t0 u0 v0 w0 x0 y0 a1 b1 c1=>A3 a i1 fun d1=>Y 71 [d1,b,c,d,e,f,g,h,i,j,k,l,m,n,o,p,q,r,s,t,u,(.rows [[y,z,a0,b0,c0,r0,s0,t0,u0,v0,w0,x0,y0,a1,b1,c1]]),v,w]))) (O 2 [b,c,d,e,f,g,h,i,j,k,l,m,n,o,p,q,r,s,t,u,nS,v,w,i0,e0,i0,i0,e0,i0,nS,nS,nS,nS,i0])
def g7b2l (a b c d e f g h i j k l m n o p q r s t u v w x : PV) : T := L 26 k fun y=>L3 a y (X 26 k a (w17 fun z a0 b0 c0 d0 f0 g0 h0 j0 k0 l0 m0 n0 o0 p0 q0 r0=>C0 89 [f0,g0,h0,j0,k0,l0,m0,n0,o0,p0,q0,r0] (w11 fun s0 t0 u0 v0 w0 x0 y0 a1 b1 c1 d1=>P 33 v (.rows [[z,a0,b0,c0,d0,s0,t0,u0,v0,w0,x0,y0,a1,b1,c1,d1]]) fun e1=>A3 a i1 fun f1=>Y 72 [f1,b,c,d,e,f,g,h,i,j,k,l,m,n,o,p,q,r,s,t,u,e1,w,x]))) (O0 [b,c,d,e,f,g,h,i,j,k,l,m,n,o,p,q,r,s,t,u,v,w,x,i0,e0,i0,i0,e0,i0,nS,nS,nS,nS,i0])
def g7b2m (a b c d e f g h i j k l m n o p q r s t u v w : PV) : T := L 26 k fun x=>L3 a x (X 26 k a (w17 fun y z a0 b0 c0 d0 f0 g0 h0 j0 k0 l0 m0 n0 o0 p0 q0=>C0 89 [d0,f0,g0,h0,j0,k0,l0,m0,n0,o0,p0,q0] (w11 fun r0 s0 t0 u0 v0 w0 x0 y0 a1 b1 c1=>P 33 u (.rows [[y,z,a0,b0,c0,r0,s0,t0,u0,v0,w0,x0,y0,a1,b1,c1]]) fun d1=>A3 a i1 fun e1=>Y 61 [e1,b,c,d,e,f,g,h,i,j,k,l,m,n,o,p,q,r,s,t,d1,v,w]))) (O 1 [b,c,d,e,f,g,h,i,j,k,l,m,n,o,p,q,r,s,t,nS,u,v,w,i0,e0,i0,i0,e0,i0,nS,nS,nS,nS,i0])
def g7b2n (a b c d e f g h i j k l m n o p q r s t u v w : PV) : T := L 26 k fun x=>L3 a x (X 26 k a (w17 fun y z a0 b0 c0 d0 f0 g0 h0 j0 k0 l0 m0 n0 o0 p0 q0=>C0 89 [d0,f0,g0,h0,j0,k0,l0,m0,n0,o0,p0,q0] (w11 fun r0 s0 t0 u0 v0 w0 x0 y0 a1 b1 c1=>P 33 u (.rows [[y,z,a0,b0,c0,r0,s0,t0,u0,v0,w0,x0,y0,a1,b1,c1]]) fun d1=>A3 a i1 fun e1=>Y 62 [e1,b,c,d,e,f,g,h,i,j,k,l,m,n,o,p,q,r,s,t,d1,v,w]))) (O 3 [b,c,d,e,f,g,h,i,j,k,l,m,n,o,p,q,r,s,t,nS,u,v,w,i0,e0,i0,i0,e0,i0,nS,nS,nS,nS,i0])
def g7b2o (a b c d e f g h i j k l m n o p q r s t u v w x : PV) : T := L 26 k fun y=>L3 a y (X 26 k a (w17 fun z a0 b0 c0 d0 f0 g0 h0 j0 k0 l0 m0 n0 o0 p0 q0 r0=>C0 89 [f0,g0,h0,j0,k0,l0,m0,n0,o0,p0,q0,r0] (w11 fun s0 t0 u0 v0 w0 x0 y0 a1 b1 c1 d1=>P 33 v (.rows [[z,a0,b0,c0,d0,s0,t0,u0,v0,w0,x0,y0,a1,b1,c1,d1]]) fun e1=>A3 a i1 fun f1=>Y 63 [f1,b,c,d,e,f,g,h,i,j,k,l,m,n,o,p,q,r,s,t,u,e1,w,x]))) (O 4 [b,c,d,e,f,g,h,i,j,k,l,m,n,o,p,q,r,s,t,u,v,w,x,i0,e0,i0,i0,e0,i0,nS,nS,nS,nS,i0])
def g7b2p (a b c d e f g h i j k l m n o p q r s t u v w x : PV) : T := L 26 k fun y=>L3 a y (X 26 k a (w17 fun z a0 b0 c0 d0 f0 g0 h0 j0 k0 l0 m0 n0 o0 p0 q0 r0=>C0 89 [f0,g0,h0,j0,k0,l0,m0,n0,o0,p0,q0,r0] (w11 fun s0 t0 u0 v0 w0 x0 y0 a1 b1 c1 d1=>P 33 v (.rows [[z,a0,b0,c0,d0,s0,t0,u0,v0,w0,x0,y0,a1,b1,c1,d1]]) fun e1=>A3 a i1 fun f1=>Y 64 [f1,b,c,d,e,f,g,h,i,j,k,l,m,n,o,p,q,r,s,t,u,e1,w,x]))) (O 3 [b,c,d,e,f,g,h,i,j,k,l,m,n,o,p,q,r,s,t,u,v,w,x,i0,e0,i0,i0,e0,i0,nS,nS,nS,nS,i0])
def g7b2q (a b c d e f g h i j k l m n o p q r s t u v : PV) : T := L 26 k fun w=>L3 a w (X 26 k a (w17 fun x y z a0 b0 c0 d0 f0 g0 h0 j0 k0 l0 m0 n0 o0 p0=>C0 89 [c0,d0,f0,g0,h0,j0,k0,l0,m0,n0,o0,p0] (w11 fun q0 r0 s0 t0 u0 v0 w0 x0 y0 a1 b1=>P 33 t (.rows [[x,y,z,a0,b0,q0,r0,s0,t0,u0,v0,w0,x0,y0,a1,b1]]) fun c1=>A3 a i1 fun d1=>Y 61 [d1,b,c,d,e,f,g,h,i,j,k,l,m,n,o,p,q,r,s,nS,c1,u,v]))) (O 1 [b,c,d,e,f,g,h,i,j,k,l,m,n,o,p,q,r,s,nS,nS,t,u,v,i0,e0,i0,i0,e0,i0,nS,nS,nS,nS,i0])
def g7b2r (a b c d e f g h i j k l m n o p q r s t u v : PV) : T := L 26 k fun w=>L3 a w (X 26 k a (w17 fun x y z a0 b0 c0 d0 f0 g0 h0 j0 k0 l0 m0 n0 o0 p0=>C0 89 [c0,d0,f0,g0,h0,j0,k0,l0,m0,n0,o0,p0] (w11 fun q0 r0 s0 t0 u0 v0 w0 x0 y0 a1 b1=>P 33 t (.rows [[x,y,z,a0,b0,q0,r0,s0,t0,u0,v0,w0,x0,y0,a1,b1]]) fun c1=>A3 a i1 fun d1=>Y 62 [d1,b,c,d,e,f,g,h,i,j,k,l,m,n,o,p,q,r,s,nS,c1,u,v]))) (O 3 [b,c,d,e,f,g,h,i,j,k,l,m,n,o,p,q,r,s,nS,nS,t,u,v,i0,e0,i0,i0,e0,i0,nS,nS,nS,nS,i0])
def g7b2s (a b c d e f g h i j k l m n o p q r s t u v w : PV) : T := L 26 k fun x=>L3 a x (X 26 k a (w17 fun y z a0 b0 c0 d0 f0 g0 h0 j0 k0 l0 m0 n0 o0 p0 q0=>C0 89 [d0,f0,g0,h0,j0,k0,l0,m0,n0,o0,p0,q0] (w11 fun r0 s0 t0 u0 v0 w0 x0 y0 a1 b1 c1=>P 33 u (.rows [[y,z,a0,b0,c0,r0,s0,t0,u0,v0,w0,x0,y0,a1,b1,c1]]) fun d1=>A3 a i1 fun e1=>Y 63 [e1,b,c,d,e,f,g,h,i,j,k,l,m,n,o,p,q,r,s,nS,t,d1,v,w]))) (O 4 [b,c,d,e,f,g,h,i,j,k,l,m,n,o,p,q,r,s,nS,t,u,v,w,i0,e0,i0,i0,e0,i0,nS,nS,nS,nS,i0])
def g7b2t (a b c d e f g h i j k l m n o p q r s t u v w : PV) : T := L 26 k fun x=>L3 a x (X 26 k a (w17 fun y z a0 b0 c0 d0 f0 g0 h0 j0 k0 l0 m0 n0 o0 p0 q0=>C0 89 [d0,f0,g0,h0,j0,k0,l0,m0,n0,o0,p0,q0] (w11 fun r0 s0 t0 u0 v0 w0 x0 y0 a1 b1 c1=>P 33 u (.rows [[y,z,a0,b0,c0,r0,s0,t0,u0,v0,w0,x0,y0,a1,b1,c1]]) fun d1=>A3 a i1 fun e1=>Y 64 [e1,b,c,d,e,f,g,h,i,j,k,l,m,n,o,p,q,r,s,nS,t,d1,v,w]))) (O 3 [b,c,d,e,f,g,h,i,j,k,l,m,n,o,p,q,r,s,nS,t,u,v,w,i0,e0,i0,i0,e0,i0,nS,nS,nS,nS,i0])
def g7b2u (a b c d e f g h i j k l m n o p q r s t u v w : PV) : T := L 26 k fun x=>L3 a x (X 26 k a (w17 fun y z a0 b0 c0 d0 f0 g0 h0 j0 k0 l0 m0 n0 o0 p0 q0=>C0 89 [d0,f0,g0,h0,j0,k0,l0,m0,n0,o0,p0,q0] (w11 fun r0 s0 t0 u0 v0 w0 x0 y0 a1 b1 c1=>P 33 u (.rows [[y,z,a0,b0,c0,r0,s0,t0,u0,v0,w0,x0,y0,a1,b1,c1]]) fun d1=>A3 a i1 fun e1=>Y 69 [e1,b,c,d,e,f,g,h,i,j,k,l,m,n,o,p,q,r,s,t,d1,v,w]))) (O 5 [b,c,d,e,f,g,h,i,j,k,l,m,n,o,p,q,r,s,t,nS,u,v,w,i0,e0,i0,i0,e0,i0,nS,nS,nS,nS,i0])
def g7b2v (a b c d e f g h i j k l m n o p q r s t u v w : PV) : T := L 26 k fun x=>L3 a x (X 26 k a (w17 fun y z a0 b0 c0 d0 f0 g0 h0 j0 k0 l0 m0 n0 o0 p0 q0=>C0 89 [d0,f0,g0,h0,j0,k0,l0,m0,n0,o0,p0,q0] (w11 fun r0 s0 t0 u0 v0 w0 x0 y0 a1 b1 c1=>P 33 u (.rows [[y,z,a0,b0,c0,r0,s0,t0,u0,v0,w0,x0,y0,a1,b1,c1]]) fun d1=>A3 a i1 fun e1=>Y 70 [e1,b,c,d,e,f,g,h,i,j,k,l,m,n,o,p,q,r,s,t,d1,v,w]))) (O 4 [b,c,d,e,f,g,h,i,j,k,l,m,n,o,p,q,r,s,t,nS,u,v,w,i0,e0,i0,i0,e0,i0,nS,nS,nS,nS,i0])
def g7b2w (a b c d e f g h i j k l m n o p q r s t u v w x : PV) : T := L 26 k fun y=>L3 a y (X 26 k a (w17 fun z a0 b0 c0 d0 f0 g0 h0 j0 k0 l0 m0 n0 o0 p0 q0 r0=>C0 89 [f0,g0,h0,j0,k0,l0,m0,n0,o0,p0,q0,r0] (w11 fun s0 t0 u0 v0 w0 x0 y0 a1 b1 c1 d1=>P 33 v (.rows [[z,a0,b0,c0,d0,s0,t0,u0,v0,w0,x0,y0,a1,b1,c1,d1]]) fun e1=>A3 a i1 fun f1=>Y 71 [f1,b,c,d,e,f,g,h,i,j,k,l,m,n,o,p,q,r,s,t,u,e1,w,x]))) (O 5 [b,c,d,e,f,g,h,i,j,k,l,m,n,o,p,q,r,s,t,u,v,w,x,i0,e0,i0,i0,e0,i0,nS,nS,nS,nS,i0])
def g7b2x (a b c d e f g h i j k l m n o p q r s t u v w x : PV) : T := L 26 k fun y=>L3 a y (X 26 k a (w17 fun z a0 b0 c0 d0 f0 g0 h0 j0 k0 l0 m0 n0 o0 p0 q0 r0=>C0 89 [f0,g0,h0,j0,k0,l0,m0,n0,o0,p0,q0,r0] (w11 fun s0 t0 u0 v0 w0 x0 y0 a1 b1 c1 d1=>P 33 v (.rows [[z,a0,b0,c0,d0,s0,t0,u0,v0,w0,x0,y0,a1,b1,c1,d1]]) fun e1=>A3 a i1 fun f1=>Y 72 [f1,b,c,d,e,f,g,h,i,j,k,l,m,n,o,p,q,r,s,t,u,e1,w,x]))) (O 1 [b,c,d,e,f,g,h,i,j,k,l,m,n,o,p,q,r,s,t,u,v,w,x,i0,e0,i0,i0,e0,i0,nS,nS,nS,nS,i0])
def g11 (a : PV) : T := D 74 [i0,a] 0 1 (mz [nS] (O0 [nS])) (w1 fun b=>O 1 [b])
def g11b0a (a b : PV) : T := L 27 b fun c=>L3 a c (X 27 b a (w16 fun d e f g h i j k l m n o p q r s=>C0 89 [g,h,i,j,k,l,m,n,o,p,q,r] (w11 fun t u v w x y z a0 b0 c0 d0=>A3 a i1 fun f0=>Y 75 [f0,b,(.rows [[d,t,u,v,w,x,y,z,a0,b0,c0,d0,s]])]))) (O0 [nS])
def g11b0b (a b c : PV) : T := L 27 b fun d=>L3 a d (X 27 b a (w16 fun e f g h i j k l m n o p q r s t=>C0 89 [h,i,j,k,l,m,n,o,p,q,r,s] (w11 fun u v w x y z a0 b0 c0 d0 f0=>P 34 c (.rows [[e,u,v,w,x,y,z,a0,b0,c0,d0,f0,t]]) fun g0=>A3 a i1 fun h0=>Y 75 [h0,b,g0]))) (O 1 [c])
def g8 (a b c d e f g h i j k l m n o p q r s t u v : PV) : T := N3 a l (O0 [bf]) (N9 b m (O0 [bf]) (TW .neq 2 c n (O0 [bf]) (Q0 81 [d,e,f,g,o,p,q,r] (L 32 h fun w=>L 32 s fun x=>N3 w x (O0 [bf]) (L 33 i fun y=>L 33 t fun z=>N3 y z (O0 [bf]) (Q0 79 [j,u] (J (C 77 [i0,a,b,c,d,e,f,g,h,i,j,k,l,m,n,o,p,q,r,s,t,u,v] 1 (mz [a,b,c,d,e,f,g,h,i,j,k,l,m,n,o,p,q,r,s,t,u,v] (J (C 78 [i0,a,b,c,d,e,f,g,h,i,j,k,l,m,n,o,p,q,r,s,t,u,v] 1 (mz [a,b,c,d,e,f,g,h,i,j,k,l,m,n,o,p,q,r,s,t,u,v] (O0 [bt]))) (D 78 [i0,a,b,c,d,e,f,g,h,i,j,k,l,m,n,o,p,q,r,s,t,u,v] 0 0 (mz [a,b,c,d,e,f,g,h,i,j,k,l,m,n,o,p,q,r,s,t,u,v,bt] (O0 [bt])) (mz [a,b,c,d,e,f,g,h,i,j,k,l,m,n,o,p,q,r,s,t,u,v,bf] (O0 [bf])))))) (D 77 [i0,a,b,c,d,e,f,g,h,i,j,k,l,m,n,o,p,q,r,s,t,u,v] 0 0 (mz [a,b,c,d,e,f,g,h,i,j,k,l,m,n,o,p,q,r,s,t,u,v,bt] (O0 [bt])) (mz [a,b,c,d,e,f,g,h,i,j,k,l,m,n,o,p,q,r,s,t,u,v,bf] (O0 [bf])))) (O0 [bf])))) (O0 [bf]))))
def g8b0a (a b c d e f g h i j k l m n o p q r s t u v w : PV) : T := L 32 i fun x=>L3 a x (X 32 i a (w11 fun y z a0 b0 c0 d0 f0 g0 h0 j0 k0=>X 32 t a (w11 fun l0 m0 n0 o0 p0 q0 r0 s0 t0 u0 v0=>Q0 76 [y,z,a0,b0,c0,d0,f0,g0,h0,j0,k0,l0,m0,n0,o0,p0,q0,r0,s0,t0,u0,v0] (A3 a i1 fun w0=>Y 77 [w0,b,c,d,e,f,g,h,i,j,k,l,m,n,o,p,q,r,s,t,u,v,w]) (O0 [b,c,d,e,f,g,h,i,j,k,l,m,n,o,p,q,r,s,t,u,v,w,bf])))) (O 1 [b,c,d,e,f,g,h,i,j,k,l,m,n,o,p,q,r,s,t,u,v,w])
def g8b2a (a b c d e f g h i j k l m n o p q r s t u v w : PV) : T := L 33 j fun x=>L3 a x (X 33 j a (w16 fun y z a0 b0 c0 d0 f0 g0 h0 j0 k0 l0 m0 n0 o0 p0=>X 33 u a (w16 fun q0 r0 s0 t0 u0 v0 w0 x0 y0 a1 b1 c1 d1 e1 f1 g1=>Q0 82 [y,z,a0,b0,c0,q0,r0,s0,t0,u0] (Q0 76 [d0,f0,g0,h0,j0,k0,l0,m0,n0,o0,p0,v0,w0,x0,y0,a1,b1,c1,d1,e1,f1,g1] (A3 a i1 fun h1=>Y 78 [h1,b,c,d,e,f,g,h,i,j,k,l,m,n,o,p,q,r,s,t,u,v,w]) (O0 [b,c,d,e,f,g,h,i,j,k,l,m,n,o,p,q,r,s,t,u,v,w,bf])) (O0 [b,c,d,e,f,g,h,i,j,k,l,m,n,o,p,q,r,s,t,u,v,w,bf])))) (O 1 [b,c,d,e,f,g,h,i,j,k,l,m,n,o,p,q,r,s,t,u,v,w])
def g9 (a b : PV) : T := L 34 a fun c=>L 34 b fun d=>N3 c d (O0 [bf]) (J (C 80 [i0,a,b] 1 (z (O0 [bt]))) (Q0 80 [i0,a,b] (O0 [bt]) (O0 [bf])))
def g9b0a (a b c : PV) : T := L 34 b fun d=>L3 a d (X 34 b a (w13 fun e f g h i j k l m n o p q=>X 34 c a (w13 fun r s t u v w x y z a0 b0 c0 d0=>N9 e r (O0 [bf]) (Q0 76 [f,g,h,i,j,k,l,m,n,o,p,s,t,u,v,w,x,y,z,a0,b0,c0] (A3 a i1 fun f0=>Y 80 [f0,b,c]) (O0 [bf]))))) (O 1 [])
def g17 (a b c d e f g h : PV) : T := E3 a e (E9 b f (E3 c g (Q0 84 [d,h] (O0 [bt]) (O0 [bf])) (O0 [bf])) (O0 [bf])) (O0 [bf])
def g18 (a b c d e f g h i j : PV) : T := N3 a f (O0 [bf]) (N9 b g (O0 [bf]) (TW .neq 2 c h (O0 [bf]) (L 54 d fun k=>L 54 i fun l=>N3 k l (O0 [bf]) (J (C 83 [i0,a,b,c,d,e,f,g,h,i,j] 1 (mz [a,b,c,d,e,f,g,h,i,j] (O0 [bt]))) (D 83 [i0,a,b,c,d,e,f,g,h,i,j] 0 0 (mz [a,b,c,d,e,f,g,h,i,j,bt] (O0 [bt])) (mz [a,b,c,d,e,f,g,h,i,j,bf] (O0 [bf])))))))
def g18b0a (a b c d e f g h i j k : PV) : T := L 54 e fun l=>L3 a l (X 54 e a (w5 fun m n o p q=>X 54 j a (w5 fun r s t u v=>Q0 82 [m,n,o,p,q,r,s,t,u,v] (A3 a i1 fun w=>Y 83 [w,b,c,d,e,f,g,h,i,j,k]) (O0 [b,c,d,e,f,g,h,i,j,k,bf])))) (O 1 [b,c,d,e,f,g,h,i,j,k])
def g29 (a b : PV) : T := L 22 a fun c=>L 22 b fun d=>N3 c d (O0 [bf]) (J (C 85 [i0,a,b] 1 (z (O0 [bt]))) (Q0 85 [i0,a,b] (O0 [bt]) (O0 [bf])))
def g29b0a (a b c : PV) : T := L 22 b fun d=>L3 a d (X 22 b a (w4 fun e f g h=>X 22 c a (w4 fun i j k l=>Q0 81 [e,f,g,h,i,j,k,l] (A3 a i1 fun m=>Y 85 [m,b,c]) (O0 [bf])))) (O 1 [])
end
def k1 (g : PV → Rf) : Et := g (.sym 0) 1
def k2 (g : PV → PV → Rf) : Et := g (.sym 0) (.sym 1) 2
def k3 (g : PV → PV → PV → Rf) : Et := g (.sym 0) (.sym 1) (.sym 2) 3
def k4 (g : PV → PV → PV → PV → Rf) : Et := g (.sym 0) (.sym 1) (.sym 2) (.sym 3) 4
def k5 (g : PV → PV → PV → PV → PV → Rf) : Et := g (.sym 0) (.sym 1) (.sym 2) (.sym 3) (.sym 4) 5
def k7 (g : PV → PV → PV → PV → PV → PV → PV → Rf) : Et := g (.sym 0) (.sym 1) (.sym 2) (.sym 3) (.sym 4) (.sym 5) (.sym 6) 7
def k8 (g : PV → PV → PV → PV → PV → PV → PV → PV → Rf) : Et := g (.sym 0) (.sym 1) (.sym 2) (.sym 3) (.sym 4) (.sym 5) (.sym 6) (.sym 7) 8
def k10 (g : PV → PV → PV → PV → PV → PV → PV → PV → PV → PV → Rf) : Et := g (.sym 0) (.sym 1) (.sym 2) (.sym 3) (.sym 4) (.sym 5) (.sym 6) (.sym 7) (.sym 8) (.sym 9) 10
def k11 (g : PV → PV → PV → PV → PV → PV → PV → PV → PV → PV → PV → Rf) : Et := g (.sym 0) (.sym 1) (.sym 2) (.sym 3) (.sym 4) (.sym 5) (.sym 6) (.sym 7) (.sym 8) (.sym 9) (.sym 10) 11
def k12 (g : PV → PV → PV → PV → PV → PV → PV → PV → PV → PV → PV → PV → Rf) : Et := g (.sym 0) (.sym 1) (.sym 2) (.sym 3) (.sym 4) (.sym 5) (.sym 6) (.sym 7) (.sym 8) (.sym 9) (.sym 10) (.sym 11) 12
def k13 (g : PV → PV → PV → PV → PV → PV → PV → PV → PV → PV → PV → PV → PV → Rf) : Et := g (.sym 0) (.sym 1) (.sym 2) (.sym 3) (.sym 4) (.sym 5) (.sym 6) (.sym 7) (.sym 8) (.sym 9) (.sym 10) (.sym 11) (.sym 12) 13
def k14 (g : PV → PV → PV → PV → PV → PV → PV → PV → PV → PV → PV → PV → PV → PV → Rf) : Et := g (.sym 0) (.sym 1) (.sym 2) (.sym 3) (.sym 4) (.sym 5) (.sym 6) (.sym 7) (.sym 8) (.sym 9) (.sym 10) (.sym 11) (.sym 12) (.sym 13) 14
def k15 (g : PV → PV → PV → PV → PV → PV → PV → PV → PV → PV → PV → PV → PV → PV → PV → Rf) : Et := g (.sym 0) (.sym 1) (.sym 2) (.sym 3) (.sym 4) (.sym 5) (.sym 6) (.sym 7) (.sym 8) (.sym 9) (.sym 10) (.sym 11) (.sym 12) (.sym 13) (.sym 14) 15
def k21 (g : PV → PV → PV → PV → PV → PV → PV → PV → PV → PV → PV → PV → PV → PV → PV → PV → PV → PV → PV → PV → PV → Rf) : Et := g (.sym 0) (.sym 1) (.sym 2) (.sym 3) (.sym 4) (.sym 5) (.sym 6) (.sym 7) (.sym 8) (.sym 9) (.sym 10) (.sym 11) (.sym 12) (.sym 13) (.sym 14) (.sym 15) (.sym 16) (.sym 17) (.sym 18) (.sym 19) (.sym 20) 21
def k22 (g : PV → PV → PV → PV → PV → PV → PV → PV → PV → PV → PV → PV → PV → PV → PV → PV → PV → PV → PV → PV → PV → PV → Rf) : Et := g (.sym 0) (.sym 1) (.sym 2) (.sym 3) (.sym 4) (.sym 5) (.sym 6) (.sym 7) (.sym 8) (.sym 9) (.sym 10) (.sym 11) (.sym 12) (.sym 13) (.sym 14) (.sym 15) (.sym 16) (.sym 17) (.sym 18) (.sym 19) (.sym 20) (.sym 21) 22
def k23 (g : PV → PV → PV → PV → PV → PV → PV → PV → PV → PV → PV → PV → PV → PV → PV → PV → PV → PV → PV → PV → PV → PV → PV → Rf) : Et := g (.sym 0) (.sym 1) (.sym 2) (.sym 3) (.sym 4) (.sym 5) (.sym 6) (.sym 7) (.sym 8) (.sym 9) (.sym 10) (.sym 11) (.sym 12) (.sym 13) (.sym 14) (.sym 15) (.sym 16) (.sym 17) (.sym 18) (.sym 19) (.sym 20) (.sym 21) (.sym 22) 23
def k24 (g : PV → PV → PV → PV → PV → PV → PV → PV → PV → PV → PV → PV → PV → PV → PV → PV → PV → PV → PV → PV → PV → PV → PV → PV → Rf) : Et := g (.sym 0) (.sym 1) (.sym 2) (.sym 3) (.sym 4) (.sym 5) (.sym 6) (.sym 7) (.sym 8) (.sym 9) (.sym 10) (.sym 11) (.sym 12) (.sym 13) (.sym 14) (.sym 15) (.sym 16) (.sym 17) (.sym 18) (.sym 19) (.sym 20) (.sym 21) (.sym 22) (.sym 23) 24
def k25 (g : PV → PV → PV → PV → PV → PV → PV → PV → PV → PV → PV → PV → PV → PV → PV → PV → PV → PV → PV → PV → PV → PV → PV → PV → PV → Rf) : Et := g (.sym 0) (.sym 1) (.sym 2) (.sym 3) (.sym 4) (.sym 5) (.sym 6) (.sym 7) (.sym 8) (.sym 9) (.sym 10) (.sym 11) (.sym 12) (.sym 13) (.sym 14) (.sym 15) (.sym 16) (.sym 17) (.sym 18) (.sym 19) (.sym 20) (.sym 21) (.sym 22) (.sym 23) (.sym 24) 25
def pR : Nat → Nat → List PV
  | _, 0 => []
  | a, n + 1 => .sym a :: pR (a + 1) n
def wR : Nat → Nat → List AV
  | _, 0 => []
  | a, n + 1 => .pv (.sym a) :: wR (a + 1) n
def nA : AV := .pv nS
def eA : AV := .pv e0
def zA : AV := .pv i0
def tA : AV := .pv bt
def fA : AV := .pv bf
def rA (n : Nat) : AV := .ptr n 0
def nR : Nat → List AV
  | 0 => []
  | n + 1 => nA :: nR n
def tk (t s n : Nat) : AObj := .tok t s (symBase + n)
def eF (f : Nat) (a : List AV) (h : List AObj) (n m : Nat) : Ent := { f := f, args := a, h := h, n := n, fam := m }
def eL (a b f : Nat) (e : Env) (h : List AObj) (n m : Nat) : Ent := { lp := some (a, b), f := f, e := e, h := h, n := n, fam := m }
def rn (r : List Nat) (e : Ent) : Ent := { e with rin := r }
def wkE (e : Ent) (m b : Nat) : Ent := { e with fam := m, base := some b }
def yU (v : AV) (m : Nat) : Shape := { v := v, m := m }
def yV (v : AV) (h : List AObj) (m : Nat) : Shape := { v := v, h := h, m := m }
def yW (v : AV) (h : List AObj) (m : Nat) (r : List Nat) : Shape := { v := v, h := h, m := m, rw := r }
def yE (x : AExit) (e : Env) (h : List AObj) (m : Nat) : Shape := { ex := x, e := e, h := h, m := m }
def yR (x : AExit) (e : Env) (h : List AObj) (m : Nat) (r : List Nat) : Shape := { ex := x, e := e, h := h, m := m, rw := r }
def b24_4 (a : Nat) : AObj := .box 24 (wR a 4)
def b29_12 (a : Nat) : AObj := .box 29 (wR a 12)
def b36_11 (a : Nat) : AObj := .box 36 (wR a 11)
def b56_5 (a : Nat) : AObj := .box 56 (wR a 5)
def o0 : AV := .pv (.sym 0)
def o1 : AV := .pv (.sym 1)
def o2 : AV := .pv (.sym 2)
def o3 : AV := .pv (.sym 3)
def o4 : AV := .pv (.sym 4)
def o5 : AV := .pv (.sym 5)
def o6 : AV := .pv (.sym 6)
def o7 : AV := .pv (.sym 7)
def o9 : AV := .pv (.sym 9)
def o10 : AV := .pv (.sym 10)
def o11 : AV := .pv (.sym 11)
def o12 : AV := .pv (.sym 12)
def o13 : AV := .pv (.sym 13)
def o19 : AV := .pv (.sym 19)
def o20 : AV := .pv (.sym 20)
def o21 : AV := .pv (.sym 21)
def o22 : AV := .pv (.sym 22)
def o23 : AV := .pv (.sym 23)
def y0 : List Shape := [yU (.agg (wR 0 11)) 11, yW (.agg (wR 0 8 ++ [(.tsym 0 8),o9,o10])) [tk 60 16 8] 11 [8], yW (.agg (wR 0 7 ++ [(.tsym 0 7)] ++ wR 8 3)) [tk 36 11 7] 11 [7], yW (.agg (wR 0 7 ++ [(.tsym 0 7),(.tsym 1 8),o9,o10])) [tk 36 11 7, tk 60 16 8] 11 [7,8], yW (.agg (wR 0 6 ++ [(.tsym 0 6)] ++ wR 7 4)) [tk 24 4 6] 11 [6], yW (.agg (wR 0 6 ++ [(.tsym 0 6),o7,(.tsym 1 8),o9,o10])) [tk 24 4 6, tk 60 16 8] 11 [6,8], yW (.agg (wR 0 6 ++ [(.tsym 0 6),(.tsym 1 7)] ++ wR 8 3)) [tk 24 4 6, tk 36 11 7] 11 [6,7], yW (.agg (wR 0 6 ++ [(.tsym 0 6),(.tsym 1 7),(.tsym 2 8),o9,o10])) [tk 24 4 6, tk 36 11 7, tk 60 16 8] 11 [6,7,8]]
def y1 : Env := [(44,o0),(43,o1),(42,o2),(3,(rA 0)),(2,(rA 2))]
def y2 : Env := [(5,o0),(1,(rA 0)),(3,(rA 1)),(2,(rA 3))]
def y3 : Env := [(44,o0),(43,o1),(42,o2),(3,(rA 0)),(2,(rA 3))]
def y4 : Env := [(5,o0),(1,(rA 0)),(3,(rA 1)),(2,(rA 4))]
def y5 : Env := [(29,o0),(28,o1),(27,o2),(3,(rA 0)),(1,(rA 1)),(2,(rA 2))]
def y6 : Env := [(44,o0),(43,o1),(42,o2),(3,(rA 0)),(2,(rA 1))]
def y7 : Env := [(4,o0),(1,(rA 0)),(3,(rA 1)),(2,(rA 2))]
def y8 : Env := [(5,o0),(1,(rA 0)),(3,(rA 1)),(2,(rA 2))]
def y9 : Env := [(3,(rA 0)),(2,(rA 2))]
def y10 : Env := [(3,(rA 0)),(2,(rA 3))]
def y11 : Env := [(3,(rA 1)),(2,(rA 3))]
def y12 : Env := [(3,(rA 1)),(2,(rA 4))]
def y13 : List AObj := [b29_12 1, .box 36 (wR 13 6 ++ [nA,nA,nA,o19,o20]), .box 36 ([zA,eA,zA,zA,eA,zA] ++ nR 4 ++ [zA])]
def y14 : List AObj := [b29_12 1, .box 36 (wR 13 7 ++ [nA,nA,o20,o21]), .box 36 ([zA,eA,zA,zA,eA,zA] ++ nR 4 ++ [zA])]
def y15 : List Shape := [yE (.exit 0) [(3,o0)] [] 1, yR (.exit 0) [(3,(.tsym 0 0))] [tk 64 13 0] 1 [0]]
def en12 : Ent := eF 6 [(.agg (wR 0 12))] [] 12 12
def en41 : Ent := eF 10 [o0] [] 1 18
def en44 : Ent := eF 7 [(.agg (wR 0 12))] [] 12 20
def en73 : Ent := eF 11 [o0] [] 1 26
def en86 : Ent := wkE en41 38 41
def en87 : Ent := wkE en12 39 12
def en88 : Ent := wkE en73 40 73
def en89 : Ent := wkE en44 41 44
def enL : List Ent := [
  eF 5 [(.agg (wR 0 12)),o12] [] 13 0,
  eF 16 [(.agg (wR 0 12)),o12] [] 13 1,
  eL 0 1 16 [(6,o0),(2,(rA 0)),(5,o1),(1,o2)] [b29_12 3] 15 2,
  eL 2 1 16 [(7,o0),(2,(rA 0)),(5,o1),(1,o2)] [b29_12 3] 15 3,
  eL 4 1 16 [(8,o0),(2,(rA 0)),(5,o1),(1,o2)] [b29_12 3] 15 4,
  eF 27 [o0] [] 1 5,
  eL 0 0 27 [(8,o0),(7,o1),(6,o2),(3,o3)] [] 4 6,
  eF 28 [o0] [] 1 7,
  eL 0 0 28 [(8,o0),(7,o1),(6,o2),(3,o3)] [] 4 8,
  eF 67 [(.agg (wR 0 4)),o4] [] 5 9,
  eF 123 [(.agg (wR 0 4)),o4] [] 5 10,
  eL 0 1 123 [(6,o0),(2,(rA 0)),(5,o1),(1,o2)] [b24_4 3] 7 11,
  en12,
  eL 0 3 6 y5 [.box 36 (wR 3 7 ++ [nA,nA,o10,o11]), b29_12 12, .box 36 ([zA,eA,zA,zA,eA,zA] ++ nR 4 ++ [zA])] 24 13,
  eL 0 3 6 y5 [.box 36 (wR 3 6 ++ [nA,nA,nA,o9,o10]), b29_12 11, .box 36 ([zA,eA,zA,zA,eA,zA] ++ nR 4 ++ [zA])] 23 13,
  rn [10] (eL 0 3 6 y5 [.box 36 (wR 3 7 ++ [(.tsym 3 10),nA,o11,o12]), b29_12 13, .box 36 ([zA,eA,zA,zA,eA,zA] ++ nR 4 ++ [zA]), tk 36 11 10] 25 13),
  rn [9] (eL 0 3 6 y5 [.box 36 (wR 3 6 ++ [nA,(.tsym 3 9),nA,o10,o11]), b29_12 12, .box 36 ([zA,eA,zA,zA,eA,zA] ++ nR 4 ++ [zA]), tk 36 11 9] 24 13),
  eL 2 2 6 y6 [.box 36 (wR 3 7 ++ [nA,nA,o10,o11]), .box 36 ([zA,eA,zA,zA,eA,zA] ++ nR 4 ++ [zA])] 12 14,
  rn [10] (eL 2 3 6 y1 [.box 36 (wR 3 7 ++ [nA,(.tsym 1 10),o11,o12]), tk 60 16 10, .box 36 ([zA,eA,zA,zA,eA,zA] ++ nR 4 ++ [zA])] 13 15),
  rn [10] (eL 2 3 6 y1 [.box 36 (wR 3 7 ++ [(.tsym 1 10),nA,o11,o12]), tk 36 11 10, .box 36 ([zA,eA,zA,zA,eA,zA] ++ nR 4 ++ [zA])] 13 15),
  rn [10,11] (eL 2 4 6 y3 [.box 36 (wR 3 7 ++ [(.tsym 1 10),(.tsym 2 11),o12,o13]), tk 36 11 10, tk 60 16 11, .box 36 ([zA,eA,zA,zA,eA,zA] ++ nR 4 ++ [zA])] 14 16),
  eL 2 2 6 y6 [.box 36 (wR 3 6 ++ [nA,nA,nA,o9,o10]), .box 36 ([zA,eA,zA,zA,eA,zA] ++ nR 4 ++ [zA])] 11 14,
  rn [9] (eL 2 3 6 y1 [.box 36 (wR 3 6 ++ [nA,nA,(.tsym 1 9),o10,o11]), tk 60 16 9, .box 36 ([zA,eA,zA,zA,eA,zA] ++ nR 4 ++ [zA])] 12 15),
  rn [9] (eL 2 3 6 y1 [.box 36 (wR 3 6 ++ [nA,(.tsym 1 9),nA,o10,o11]), tk 36 11 9, .box 36 ([zA,eA,zA,zA,eA,zA] ++ nR 4 ++ [zA])] 12 15),
  rn [9,10] (eL 2 4 6 y3 [.box 36 (wR 3 6 ++ [nA,(.tsym 1 9),(.tsym 2 10),o11,o12]), tk 36 11 9, tk 60 16 10, .box 36 ([zA,eA,zA,zA,eA,zA] ++ nR 4 ++ [zA])] 13 16),
  rn [9] (eL 2 3 6 y1 [.box 36 (wR 3 6 ++ [(.tsym 1 9),nA,nA,o10,o11]), tk 24 4 9, .box 36 ([zA,eA,zA,zA,eA,zA] ++ nR 4 ++ [zA])] 12 15),
  rn [9,10] (eL 2 4 6 y3 [.box 36 (wR 3 6 ++ [(.tsym 1 9),nA,(.tsym 2 10),o11,o12]), tk 24 4 9, tk 60 16 10, .box 36 ([zA,eA,zA,zA,eA,zA] ++ nR 4 ++ [zA])] 13 16),
  rn [9,10] (eL 2 4 6 y3 [.box 36 (wR 3 6 ++ [(.tsym 1 9),(.tsym 2 10),nA,o11,o12]), tk 24 4 9, tk 36 11 10, .box 36 ([zA,eA,zA,zA,eA,zA] ++ nR 4 ++ [zA])] 13 16),
  rn [9,10,11] (eL 2 5 6 [(44,o0),(43,o1),(42,o2),(3,(rA 0)),(2,(rA 4))] [.box 36 (wR 3 6 ++ [(.tsym 1 9),(.tsym 2 10),(.tsym 3 11),o12,o13]), tk 24 4 9, tk 36 11 10, tk 60 16 11, .box 36 ([zA,eA,zA,zA,eA,zA] ++ nR 4 ++ [zA])] 14 17),
  rn [10] (eL 2 2 6 y6 [.box 36 (wR 3 7 ++ [nA,(.tsym 2 10),o11,o12]), .box 36 ([zA,eA,zA,zA,eA,zA] ++ nR 4 ++ [zA]), tk 60 16 10] 13 14),
  rn [10] (eL 2 3 6 y1 [.box 36 (wR 3 7 ++ [nA,(.tsym 3 10),o11,o12]), .dead, .box 36 ([zA,eA,zA,zA,eA,zA] ++ nR 4 ++ [zA]), tk 60 16 10] 13 15),
  rn [10,11] (eL 2 3 6 y1 [.box 36 (wR 3 7 ++ [(.tsym 1 10),(.tsym 3 11),o12,o13]), tk 36 11 10, .box 36 ([zA,eA,zA,zA,eA,zA] ++ nR 4 ++ [zA]), tk 60 16 11] 14 15),
  rn [10,11] (eL 2 4 6 y3 [.box 36 (wR 3 7 ++ [(.tsym 1 10),(.tsym 4 11),o12,o13]), tk 36 11 10, .dead, .box 36 ([zA,eA,zA,zA,eA,zA] ++ nR 4 ++ [zA]), tk 60 16 11] 14 16),
  rn [9] (eL 2 2 6 y6 [.box 36 (wR 3 6 ++ [nA,nA,(.tsym 2 9),o10,o11]), .box 36 ([zA,eA,zA,zA,eA,zA] ++ nR 4 ++ [zA]), tk 60 16 9] 12 14),
  rn [9] (eL 2 3 6 y1 [.box 36 (wR 3 6 ++ [nA,nA,(.tsym 3 9),o10,o11]), .dead, .box 36 ([zA,eA,zA,zA,eA,zA] ++ nR 4 ++ [zA]), tk 60 16 9] 12 15),
  rn [9,10] (eL 2 3 6 y1 [.box 36 (wR 3 6 ++ [nA,(.tsym 1 9),(.tsym 3 10),o11,o12]), tk 36 11 9, .box 36 ([zA,eA,zA,zA,eA,zA] ++ nR 4 ++ [zA]), tk 60 16 10] 13 15),
  rn [9,10] (eL 2 4 6 y3 [.box 36 (wR 3 6 ++ [nA,(.tsym 1 9),(.tsym 4 10),o11,o12]), tk 36 11 9, .dead, .box 36 ([zA,eA,zA,zA,eA,zA] ++ nR 4 ++ [zA]), tk 60 16 10] 13 16),
  rn [9,10] (eL 2 3 6 y1 [.box 36 (wR 3 6 ++ [(.tsym 1 9),nA,(.tsym 3 10),o11,o12]), tk 24 4 9, .box 36 ([zA,eA,zA,zA,eA,zA] ++ nR 4 ++ [zA]), tk 60 16 10] 13 15),
  rn [9,10] (eL 2 4 6 y3 [.box 36 (wR 3 6 ++ [(.tsym 1 9),nA,(.tsym 4 10),o11,o12]), tk 24 4 9, .dead, .box 36 ([zA,eA,zA,zA,eA,zA] ++ nR 4 ++ [zA]), tk 60 16 10] 13 16),
  rn [9,10,11] (eL 2 4 6 y3 [.box 36 (wR 3 6 ++ [(.tsym 1 9),(.tsym 2 10),(.tsym 4 11),o12,o13]), tk 24 4 9, tk 36 11 10, .box 36 ([zA,eA,zA,zA,eA,zA] ++ nR 4 ++ [zA]), tk 60 16 11] 14 16),
  rn [9,10,11] (eL 2 5 6 [(44,o0),(43,o1),(42,o2),(3,(rA 0)),(2,(rA 4))] [.box 36 (wR 3 6 ++ [(.tsym 1 9),(.tsym 2 10),(.tsym 5 11),o12,o13]), tk 24 4 9, tk 36 11 10, .dead, .box 36 ([zA,eA,zA,zA,eA,zA] ++ nR 4 ++ [zA]), tk 60 16 11] 14 17),
  en41,
  eL 0 0 10 [(8,o0),(7,o1),(6,o2),(3,nA)] [] 3 19,
  rn [3] (eL 0 0 10 [(8,o0),(7,o1),(6,o2),(3,(.tsym 0 3))] [tk 64 13 3] 4 19),
  en44,
  eL 0 3 7 y7 y14 22 21,
  eL 0 3 7 y7 y13 21 21,
  rn [20] (eL 0 3 7 y7 [b29_12 1, .box 36 (wR 13 7 ++ [(.tsym 3 20),nA,o21,o22]), .box 36 ([zA,eA,zA,zA,eA,zA] ++ nR 4 ++ [zA]), tk 36 11 20] 23 21),
  rn [19] (eL 0 3 7 y7 [b29_12 1, .box 36 (wR 13 6 ++ [nA,(.tsym 3 19),nA,o20,o21]), .box 36 ([zA,eA,zA,zA,eA,zA] ++ nR 4 ++ [zA]), tk 36 11 19] 22 21),
  eL 2 3 7 y8 y14 22 22,
  rn [20] (eL 2 4 7 y2 [b29_12 1, .box 36 (wR 13 7 ++ [nA,(.tsym 2 20),o21,o22]), tk 60 16 20, .box 36 ([zA,eA,zA,zA,eA,zA] ++ nR 4 ++ [zA])] 23 23),
  rn [20] (eL 2 4 7 y2 [b29_12 1, .box 36 (wR 13 7 ++ [(.tsym 2 20),nA,o21,o22]), tk 36 11 20, .box 36 ([zA,eA,zA,zA,eA,zA] ++ nR 4 ++ [zA])] 23 23),
  rn [20,21] (eL 2 5 7 y4 [b29_12 1, .box 36 (wR 13 7 ++ [(.tsym 2 20),(.tsym 3 21),o22,o23]), tk 36 11 20, tk 60 16 21, .box 36 ([zA,eA,zA,zA,eA,zA] ++ nR 4 ++ [zA])] 24 24),
  eL 2 3 7 y8 y13 21 22,
  rn [19] (eL 2 4 7 y2 [b29_12 1, .box 36 (wR 13 6 ++ [nA,nA,(.tsym 2 19),o20,o21]), tk 60 16 19, .box 36 ([zA,eA,zA,zA,eA,zA] ++ nR 4 ++ [zA])] 22 23),
  rn [19] (eL 2 4 7 y2 [b29_12 1, .box 36 (wR 13 6 ++ [nA,(.tsym 2 19),nA,o20,o21]), tk 36 11 19, .box 36 ([zA,eA,zA,zA,eA,zA] ++ nR 4 ++ [zA])] 22 23),
  rn [19,20] (eL 2 5 7 y4 [b29_12 1, .box 36 (wR 13 6 ++ [nA,(.tsym 2 19),(.tsym 3 20),o21,o22]), tk 36 11 19, tk 60 16 20, .box 36 ([zA,eA,zA,zA,eA,zA] ++ nR 4 ++ [zA])] 23 24),
  rn [19] (eL 2 4 7 y2 [b29_12 1, .box 36 (wR 13 6 ++ [(.tsym 2 19),nA,nA,o20,o21]), tk 24 4 19, .box 36 ([zA,eA,zA,zA,eA,zA] ++ nR 4 ++ [zA])] 22 23),
  rn [19,20] (eL 2 5 7 y4 [b29_12 1, .box 36 (wR 13 6 ++ [(.tsym 2 19),nA,(.tsym 3 20),o21,o22]), tk 24 4 19, tk 60 16 20, .box 36 ([zA,eA,zA,zA,eA,zA] ++ nR 4 ++ [zA])] 23 24),
  rn [19,20] (eL 2 5 7 y4 [b29_12 1, .box 36 (wR 13 6 ++ [(.tsym 2 19),(.tsym 3 20),nA,o21,o22]), tk 24 4 19, tk 36 11 20, .box 36 ([zA,eA,zA,zA,eA,zA] ++ nR 4 ++ [zA])] 23 24),
  rn [19,20,21] (eL 2 6 7 [(5,o0),(1,(rA 0)),(3,(rA 1)),(2,(rA 5))] [b29_12 1, .box 36 (wR 13 6 ++ [(.tsym 2 19),(.tsym 3 20),(.tsym 4 21),o22,o23]), tk 24 4 19, tk 36 11 20, tk 60 16 21, .box 36 ([zA,eA,zA,zA,eA,zA] ++ nR 4 ++ [zA])] 24 25),
  rn [20] (eL 2 3 7 y8 [b29_12 1, .box 36 (wR 13 7 ++ [nA,(.tsym 3 20),o21,o22]), .box 36 ([zA,eA,zA,zA,eA,zA] ++ nR 4 ++ [zA]), tk 60 16 20] 23 22),
  rn [20] (eL 2 4 7 y2 [b29_12 1, .box 36 (wR 13 7 ++ [nA,(.tsym 4 20),o21,o22]), .dead, .box 36 ([zA,eA,zA,zA,eA,zA] ++ nR 4 ++ [zA]), tk 60 16 20] 23 23),
  rn [20,21] (eL 2 4 7 y2 [b29_12 1, .box 36 (wR 13 7 ++ [(.tsym 2 20),(.tsym 4 21),o22,o23]), tk 36 11 20, .box 36 ([zA,eA,zA,zA,eA,zA] ++ nR 4 ++ [zA]), tk 60 16 21] 24 23),
  rn [20,21] (eL 2 5 7 y4 [b29_12 1, .box 36 (wR 13 7 ++ [(.tsym 2 20),(.tsym 5 21),o22,o23]), tk 36 11 20, .dead, .box 36 ([zA,eA,zA,zA,eA,zA] ++ nR 4 ++ [zA]), tk 60 16 21] 24 24),
  rn [19] (eL 2 3 7 y8 [b29_12 1, .box 36 (wR 13 6 ++ [nA,nA,(.tsym 3 19),o20,o21]), .box 36 ([zA,eA,zA,zA,eA,zA] ++ nR 4 ++ [zA]), tk 60 16 19] 22 22),
  rn [19] (eL 2 4 7 y2 [b29_12 1, .box 36 (wR 13 6 ++ [nA,nA,(.tsym 4 19),o20,o21]), .dead, .box 36 ([zA,eA,zA,zA,eA,zA] ++ nR 4 ++ [zA]), tk 60 16 19] 22 23),
  rn [19,20] (eL 2 4 7 y2 [b29_12 1, .box 36 (wR 13 6 ++ [nA,(.tsym 2 19),(.tsym 4 20),o21,o22]), tk 36 11 19, .box 36 ([zA,eA,zA,zA,eA,zA] ++ nR 4 ++ [zA]), tk 60 16 20] 23 23),
  rn [19,20] (eL 2 5 7 y4 [b29_12 1, .box 36 (wR 13 6 ++ [nA,(.tsym 2 19),(.tsym 5 20),o21,o22]), tk 36 11 19, .dead, .box 36 ([zA,eA,zA,zA,eA,zA] ++ nR 4 ++ [zA]), tk 60 16 20] 23 24),
  rn [19,20] (eL 2 4 7 y2 [b29_12 1, .box 36 (wR 13 6 ++ [(.tsym 2 19),nA,(.tsym 4 20),o21,o22]), tk 24 4 19, .box 36 ([zA,eA,zA,zA,eA,zA] ++ nR 4 ++ [zA]), tk 60 16 20] 23 23),
  rn [19,20] (eL 2 5 7 y4 [b29_12 1, .box 36 (wR 13 6 ++ [(.tsym 2 19),nA,(.tsym 5 20),o21,o22]), tk 24 4 19, .dead, .box 36 ([zA,eA,zA,zA,eA,zA] ++ nR 4 ++ [zA]), tk 60 16 20] 23 24),
  rn [19,20,21] (eL 2 5 7 y4 [b29_12 1, .box 36 (wR 13 6 ++ [(.tsym 2 19),(.tsym 3 20),(.tsym 5 21),o22,o23]), tk 24 4 19, tk 36 11 20, .box 36 ([zA,eA,zA,zA,eA,zA] ++ nR 4 ++ [zA]), tk 60 16 21] 24 24),
  rn [19,20,21] (eL 2 6 7 [(5,o0),(1,(rA 0)),(3,(rA 1)),(2,(rA 5))] [b29_12 1, .box 36 (wR 13 6 ++ [(.tsym 2 19),(.tsym 3 20),(.tsym 6 21),o22,o23]), tk 24 4 19, tk 36 11 20, .dead, .box 36 ([zA,eA,zA,zA,eA,zA] ++ nR 4 ++ [zA]), tk 60 16 21] 24 25),
  en73,
  eL 0 0 11 [(4,o0),(0,o1),(3,nA)] [] 2 27,
  rn [2] (eL 0 0 11 [(4,o0),(0,o1),(3,(.tsym 0 2))] [tk 64 13 2] 3 27),
  eF 8 [(.agg (wR 0 11)),(.agg (wR 11 11))] [] 22 28,
  eL 0 2 8 [(5,o0),(2,(rA 0)),(3,(rA 1))] [b36_11 1, b36_11 12] 23 29,
  eL 2 2 8 [(6,o0),(2,(rA 0)),(3,(rA 1))] [b36_11 1, b36_11 12] 23 30,
  eF 9 [o0,o1] [] 2 31,
  eL 0 0 9 [(5,o0),(0,o1),(1,o2)] [] 3 32,
  eF 17 [(.agg (wR 0 4)),(.agg (wR 4 4))] [] 8 33,
  eF 18 [(.agg (wR 0 5)),(.agg (wR 5 5))] [] 10 34,
  eL 0 2 18 [(5,o0),(2,(rA 0)),(3,(rA 1))] [b56_5 1, b56_5 6] 11 35,
  eF 29 [o0,o1] [] 2 36,
  eL 0 0 29 [(5,o0),(0,o1),(1,o2)] [] 3 37,
  en86,
  en87,
  en88,
  en89]
def shT : List (List Shape) := [
  [yU o0 1],
  [yU o0 1],
  [yE (.exit 0) [(2,(rA 0)),(5,o12),(1,o13)] [b29_12 0] 14],
  [yE (.exit 2) [(2,(rA 0)),(5,o12),(1,o13)] [b29_12 0] 14],
  [yE (.exit 4) [(5,o12)] [b29_12 0] 13],
  [yU o0 1],
  [yE .ret [(2,o0)] [] 1, yE (.exit 0) [(3,o0)] [] 1],
  [yU o0 1],
  [yE (.exit 0) [(3,o0)] [] 1],
  [yU o0 1],
  [yU o0 1],
  [yE (.exit 0) [(5,o4)] [b24_4 0] 5],
  y0,
  [yE (.exit 0) [(1,(rA 1)),(3,(rA 0)),(2,(rA 2))] [b36_11 0, b29_12 11, b36_11 23] 34, yR (.exit 0) [(1,(rA 1)),(3,(rA 0)),(2,(rA 2))] [.box 36 (wR 0 7 ++ [(.tsym 3 7)] ++ wR 8 3), b29_12 11, b36_11 23, tk 36 11 7] 34 [7]],
  [yE (.exit 2) [(3,(rA 0)),(2,(rA 1))] [b36_11 0, b36_11 11] 22, yR (.exit 2) [(3,(rA 0)),(2,(rA 1))] [.box 36 (wR 0 8 ++ [(.tsym 2 8),o9,o10]), b36_11 11, tk 60 16 8] 22 [8]],
  [yR (.exit 2) y9 [.box 36 (wR 0 8 ++ [(.tsym 1 8),o9,o10]), tk 60 16 8, b36_11 11] 22 [8], yR (.exit 2) y9 [.box 36 (wR 0 7 ++ [(.tsym 1 7)] ++ wR 8 3), tk 36 11 7, b36_11 11] 22 [7], yR (.exit 2) y9 [.box 36 (wR 0 6 ++ [(.tsym 1 6)] ++ wR 7 4), tk 24 4 6, b36_11 11] 22 [6], yR (.exit 2) y9 [.box 36 (wR 0 8 ++ [(.tsym 3 8),o9,o10]), .dead, b36_11 11, tk 60 16 8] 22 [8], yR (.exit 2) y9 [.box 36 (wR 0 7 ++ [(.tsym 1 7),(.tsym 3 8),o9,o10]), tk 36 11 7, b36_11 11, tk 60 16 8] 22 [7,8], yR (.exit 2) y9 [.box 36 (wR 0 6 ++ [(.tsym 1 6),o7,(.tsym 3 8),o9,o10]), tk 24 4 6, b36_11 11, tk 60 16 8] 22 [6,8]],
  [yR (.exit 2) y10 [.box 36 (wR 0 7 ++ [(.tsym 1 7),(.tsym 2 8),o9,o10]), tk 36 11 7, tk 60 16 8, b36_11 11] 22 [7,8], yR (.exit 2) y10 [.box 36 (wR 0 6 ++ [(.tsym 1 6),o7,(.tsym 2 8),o9,o10]), tk 24 4 6, tk 60 16 8, b36_11 11] 22 [6,8], yR (.exit 2) y10 [.box 36 (wR 0 6 ++ [(.tsym 1 6),(.tsym 2 7)] ++ wR 8 3), tk 24 4 6, tk 36 11 7, b36_11 11] 22 [6,7], yR (.exit 2) y10 [.box 36 (wR 0 7 ++ [(.tsym 1 7),(.tsym 4 8),o9,o10]), tk 36 11 7, .dead, b36_11 11, tk 60 16 8] 22 [7,8], yR (.exit 2) y10 [.box 36 (wR 0 6 ++ [(.tsym 1 6),o7,(.tsym 4 8),o9,o10]), tk 24 4 6, .dead, b36_11 11, tk 60 16 8] 22 [6,8], yR (.exit 2) y10 [.box 36 (wR 0 6 ++ [(.tsym 1 6),(.tsym 2 7),(.tsym 4 8),o9,o10]), tk 24 4 6, tk 36 11 7, b36_11 11, tk 60 16 8] 22 [6,7,8]],
  [yR (.exit 2) [(3,(rA 0)),(2,(rA 4))] [.box 36 (wR 0 6 ++ [(.tsym 1 6),(.tsym 2 7),(.tsym 3 8),o9,o10]), tk 24 4 6, tk 36 11 7, tk 60 16 8, b36_11 11] 22 [6,7,8], yR (.exit 2) [(3,(rA 0)),(2,(rA 4))] [.box 36 (wR 0 6 ++ [(.tsym 1 6),(.tsym 2 7),(.tsym 5 8),o9,o10]), tk 24 4 6, tk 36 11 7, .dead, b36_11 11, tk 60 16 8] 22 [6,7,8]],
  [yU o0 1, yW (.tsym 0 0) [tk 64 13 0] 1 [0]],
  y15,
  y0,
  [yE (.exit 0) [(1,(rA 0)),(3,(rA 1)),(2,(rA 2))] [b29_12 0, b36_11 12, b36_11 23] 34, yR (.exit 0) [(1,(rA 0)),(3,(rA 1)),(2,(rA 2))] [b29_12 0, .box 36 (wR 12 7 ++ [(.tsym 3 19)] ++ wR 20 3), b36_11 23, tk 36 11 19] 34 [19]],
  [yE (.exit 2) [(3,(rA 1)),(2,(rA 2))] [b29_12 0, b36_11 12, b36_11 23] 34, yR (.exit 2) [(3,(rA 1)),(2,(rA 2))] [b29_12 0, .box 36 (wR 12 8 ++ [(.tsym 3 20),o21,o22]), b36_11 23, tk 60 16 20] 34 [20]],
  [yR (.exit 2) y11 [b29_12 0, .box 36 (wR 12 8 ++ [(.tsym 2 20),o21,o22]), tk 60 16 20, b36_11 23] 34 [20], yR (.exit 2) y11 [b29_12 0, .box 36 (wR 12 7 ++ [(.tsym 2 19)] ++ wR 20 3), tk 36 11 19, b36_11 23] 34 [19], yR (.exit 2) y11 [b29_12 0, .box 36 (wR 12 6 ++ [(.tsym 2 18)] ++ wR 19 4), tk 24 4 18, b36_11 23] 34 [18], yR (.exit 2) y11 [b29_12 0, .box 36 (wR 12 8 ++ [(.tsym 4 20),o21,o22]), .dead, b36_11 23, tk 60 16 20] 34 [20], yR (.exit 2) y11 [b29_12 0, .box 36 (wR 12 7 ++ [(.tsym 2 19),(.tsym 4 20),o21,o22]), tk 36 11 19, b36_11 23, tk 60 16 20] 34 [19,20], yR (.exit 2) y11 [b29_12 0, .box 36 (wR 12 6 ++ [(.tsym 2 18),o19,(.tsym 4 20),o21,o22]), tk 24 4 18, b36_11 23, tk 60 16 20] 34 [18,20]],
  [yR (.exit 2) y12 [b29_12 0, .box 36 (wR 12 7 ++ [(.tsym 2 19),(.tsym 3 20),o21,o22]), tk 36 11 19, tk 60 16 20, b36_11 23] 34 [19,20], yR (.exit 2) y12 [b29_12 0, .box 36 (wR 12 6 ++ [(.tsym 2 18),o19,(.tsym 3 20),o21,o22]), tk 24 4 18, tk 60 16 20, b36_11 23] 34 [18,20], yR (.exit 2) y12 [b29_12 0, .box 36 (wR 12 6 ++ [(.tsym 2 18),(.tsym 3 19)] ++ wR 20 3), tk 24 4 18, tk 36 11 19, b36_11 23] 34 [18,19], yR (.exit 2) y12 [b29_12 0, .box 36 (wR 12 7 ++ [(.tsym 2 19),(.tsym 5 20),o21,o22]), tk 36 11 19, .dead, b36_11 23, tk 60 16 20] 34 [19,20], yR (.exit 2) y12 [b29_12 0, .box 36 (wR 12 6 ++ [(.tsym 2 18),o19,(.tsym 5 20),o21,o22]), tk 24 4 18, .dead, b36_11 23, tk 60 16 20] 34 [18,20], yR (.exit 2) y12 [b29_12 0, .box 36 (wR 12 6 ++ [(.tsym 2 18),(.tsym 3 19),(.tsym 5 20),o21,o22]), tk 24 4 18, tk 36 11 19, b36_11 23, tk 60 16 20] 34 [18,19,20]],
  [yR (.exit 2) [(3,(rA 1)),(2,(rA 5))] [b29_12 0, .box 36 (wR 12 6 ++ [(.tsym 2 18),(.tsym 3 19),(.tsym 4 20),o21,o22]), tk 24 4 18, tk 36 11 19, tk 60 16 20, b36_11 23] 34 [18,19,20], yR (.exit 2) [(3,(rA 1)),(2,(rA 5))] [b29_12 0, .box 36 (wR 12 6 ++ [(.tsym 2 18),(.tsym 3 19),(.tsym 6 20),o21,o22]), tk 24 4 18, tk 36 11 19, .dead, b36_11 23, tk 60 16 20] 34 [18,19,20]],
  [yU o0 1, yW (.tsym 0 0) [tk 64 13 0] 1 [0]],
  y15,
  [yU o0 1],
  [yE .ret [(4,o22)] [b36_11 0, b36_11 11] 23, yE (.exit 0) [(2,(rA 0)),(3,(rA 1))] [b36_11 0, b36_11 11] 22],
  [yE .ret [(4,o22)] [b36_11 0, b36_11 11] 23, yE (.exit 2) [] [b36_11 0, b36_11 11] 22],
  [yU o0 1],
  [yE .ret [(4,o0)] [] 1, yE (.exit 0) [] [] 0],
  [yU o0 1],
  [yU o0 1],
  [yE .ret [(4,o10)] [b56_5 0, b56_5 5] 11, yE (.exit 0) [] [b56_5 0, b56_5 5] 10],
  [yU o0 1],
  [yE .ret [(4,o0)] [] 1, yE (.exit 0) [] [] 0],
  [yU o0 1],
  [yU (.agg (wR 0 11)) 11],
  [yU o0 1],
  [yU (.agg (wR 0 11)) 11]]
def etL : List Et := [k13 g5, k13 g16, k15 g16b0a, k15 g16b2a, k15 g16b4a, k1 g27, k4 g27b0a, k1 g28, k4 g28b0a, k5 g67, k5 g123, k7 g123b0a, k12 g6, k24 g6b0a, k23 g6b0b, k25 g6b0c, k24 g6b0d, k12 g6b2a, k13 g6b2b, k13 g6b2c, k14 g6b2d, k11 g6b2e, k12 g6b2f, k12 g6b2g, k13 g6b2h, k12 g6b2i, k13 g6b2j, k13 g6b2k, k14 g6b2l, k13 g6b2m, k13 g6b2n, k14 g6b2o, k14 g6b2p, k12 g6b2q, k12 g6b2r, k13 g6b2s, k13 g6b2t, k13 g6b2u, k13 g6b2v, k14 g6b2w, k14 g6b2x, k1 g10, k3 g10b0a, k4 g10b0b, k12 g7, k22 g7b0a, k21 g7b0b, k23 g7b0c, k22 g7b0d, k22 g7b2a, k23 g7b2b, k23 g7b2c, k24 g7b2d, k21 g7b2e, k22 g7b2f, k22 g7b2g, k23 g7b2h, k22 g7b2i, k23 g7b2j, k23 g7b2k, k24 g7b2l, k23 g7b2m, k23 g7b2n, k24 g7b2o, k24 g7b2p, k22 g7b2q, k22 g7b2r, k23 g7b2s, k23 g7b2t, k23 g7b2u, k23 g7b2v, k24 g7b2w, k24 g7b2x, k1 g11, k2 g11b0a, k3 g11b0b, k22 g8, k23 g8b0a, k23 g8b2a, k2 g9, k3 g9b0a, k8 g17, k10 g18, k11 g18b0a, k2 g29, k3 g29b0a, etNo, etNo, etNo, etNo]
def SS : Nat → List Shape := nth [] shT
def EE : Nat → Ent := nth dEn enL
def TT : Nat → Et := nth etNo etL
noncomputable abbrev ev : Q → Option Rs := Evl PG EE TT
abbrev RK (k : Nat) : Prop := RuleOk PG SS EE TT k
abbrev q5 (a b c d e f g h i j k l m : PV) : Q := ⟨0, [a, b, c, d, e, f, g, h, i, j, k, l, m]⟩
abbrev q16 (a b c d e f g h i j k l m : PV) : Q := ⟨1, [a, b, c, d, e, f, g, h, i, j, k, l, m]⟩
abbrev q16b0a (a b c d e f g h i j k l m n o : PV) : Q := ⟨2, [a, b, c, d, e, f, g, h, i, j, k, l, m, n, o]⟩
abbrev q16b2a (a b c d e f g h i j k l m n o : PV) : Q := ⟨3, [a, b, c, d, e, f, g, h, i, j, k, l, m, n, o]⟩
abbrev q16b4a (a b c d e f g h i j k l m n o : PV) : Q := ⟨4, [a, b, c, d, e, f, g, h, i, j, k, l, m, n, o]⟩
abbrev q27 (a : PV) : Q := ⟨5, [a]⟩
abbrev q27b0a (a b c d : PV) : Q := ⟨6, [a, b, c, d]⟩
abbrev q28 (a : PV) : Q := ⟨7, [a]⟩
abbrev q28b0a (a b c d : PV) : Q := ⟨8, [a, b, c, d]⟩
abbrev q67 (a b c d e : PV) : Q := ⟨9, [a, b, c, d, e]⟩
abbrev q123 (a b c d e : PV) : Q := ⟨10, [a, b, c, d, e]⟩
abbrev q123b0a (a b c d e f g : PV) : Q := ⟨11, [a, b, c, d, e, f, g]⟩
abbrev q6 (a b c d e f g h i j k l : PV) : Q := ⟨12, [a, b, c, d, e, f, g, h, i, j, k, l]⟩
abbrev q6b0a (a b c d e f g h i j k l m n o p q r s t u v w x : PV) : Q := ⟨13, [a, b, c, d, e, f, g, h, i, j, k, l, m, n, o, p, q, r, s, t, u, v, w, x]⟩
abbrev q6b0b (a b c d e f g h i j k l m n o p q r s t u v w : PV) : Q := ⟨14, [a, b, c, d, e, f, g, h, i, j, k, l, m, n, o, p, q, r, s, t, u, v, w]⟩
abbrev q6b0c (a b c d e f g h i j : PV) (k : List (List PV)) (l m n o p q r s t u v w x y : PV) : Q := ⟨15, [a, b, c, d, e, f, g, h, i, j, .rows k, l, m, n, o, p, q, r, s, t, u, v, w, x, y]⟩
abbrev q6b0d (a b c d e f g h i : PV) (j : List (List PV)) (k l m n o p q r s t u v w x : PV) : Q := ⟨16, [a, b, c, d, e, f, g, h, i, .rows j, k, l, m, n, o, p, q, r, s, t, u, v, w, x]⟩
abbrev q6b2a (a b c d e f g h i j k l : PV) : Q := ⟨17, [a, b, c, d, e, f, g, h, i, j, k, l]⟩
abbrev q6b2b (a b c d e f g h i j : PV) (k : List (List PV)) (l m : PV) : Q := ⟨18, [a, b, c, d, e, f, g, h, i, j, .rows k, l, m]⟩
abbrev q6b2c (a b c d e f g h i j : PV) (k : List (List PV)) (l m : PV) : Q := ⟨19, [a, b, c, d, e, f, g, h, i, j, .rows k, l, m]⟩
abbrev q6b2d (a b c d e f g h i j : PV) (k l : List (List PV)) (m n : PV) : Q := ⟨20, [a, b, c, d, e, f, g, h, i, j, .rows k, .rows l, m, n]⟩
abbrev q6b2e (a b c d e f g h i j k : PV) : Q := ⟨21, [a, b, c, d, e, f, g, h, i, j, k]⟩
abbrev q6b2f (a b c d e f g h i : PV) (j : List (List PV)) (k l : PV) : Q := ⟨22, [a, b, c, d, e, f, g, h, i, .rows j, k, l]⟩
abbrev q6b2g (a b c d e f g h i : PV) (j : List (List PV)) (k l : PV) : Q := ⟨23, [a, b, c, d, e, f, g, h, i, .rows j, k, l]⟩
abbrev q6b2h (a b c d e f g h i : PV) (j k : List (List PV)) (l m : PV) : Q := ⟨24, [a, b, c, d, e, f, g, h, i, .rows j, .rows k, l, m]⟩
abbrev q6b2i (a b c d e f g h i : PV) (j : List (List PV)) (k l : PV) : Q := ⟨25, [a, b, c, d, e, f, g, h, i, .rows j, k, l]⟩
abbrev q6b2j (a b c d e f g h i : PV) (j k : List (List PV)) (l m : PV) : Q := ⟨26, [a, b, c, d, e, f, g, h, i, .rows j, .rows k, l, m]⟩
abbrev q6b2k (a b c d e f g h i : PV) (j k : List (List PV)) (l m : PV) : Q := ⟨27, [a, b, c, d, e, f, g, h, i, .rows j, .rows k, l, m]⟩
abbrev q6b2l (a b c d e f g h i : PV) (j k l : List (List PV)) (m n : PV) : Q := ⟨28, [a, b, c, d, e, f, g, h, i, .rows j, .rows k, .rows l, m, n]⟩
abbrev q6b2m (a b c d e f g h i j : PV) (k : List (List PV)) (l m : PV) : Q := ⟨29, [a, b, c, d, e, f, g, h, i, j, .rows k, l, m]⟩
abbrev q6b2n (a b c d e f g h i j : PV) (k : List (List PV)) (l m : PV) : Q := ⟨30, [a, b, c, d, e, f, g, h, i, j, .rows k, l, m]⟩
abbrev q6b2o (a b c d e f g h i j : PV) (k l : List (List PV)) (m n : PV) : Q := ⟨31, [a, b, c, d, e, f, g, h, i, j, .rows k, .rows l, m, n]⟩
abbrev q6b2p (a b c d e f g h i j : PV) (k l : List (List PV)) (m n : PV) : Q := ⟨32, [a, b, c, d, e, f, g, h, i, j, .rows k, .rows l, m, n]⟩
abbrev q6b2q (a b c d e f g h i : PV) (j : List (List PV)) (k l : PV) : Q := ⟨33, [a, b, c, d, e, f, g, h, i, .rows j, k, l]⟩
abbrev q6b2r (a b c d e f g h i : PV) (j : List (List PV)) (k l : PV) : Q := ⟨34, [a, b, c, d, e, f, g, h, i, .rows j, k, l]⟩
abbrev q6b2s (a b c d e f g h i : PV) (j k : List (List PV)) (l m : PV) : Q := ⟨35, [a, b, c, d, e, f, g, h, i, .rows j, .rows k, l, m]⟩
abbrev q6b2t (a b c d e f g h i : PV) (j k : List (List PV)) (l m : PV) : Q := ⟨36, [a, b, c, d, e, f, g, h, i, .rows j, .rows k, l, m]⟩
abbrev q6b2u (a b c d e f g h i : PV) (j k : List (List PV)) (l m : PV) : Q := ⟨37, [a, b, c, d, e, f, g, h, i, .rows j, .rows k, l, m]⟩
abbrev q6b2v (a b c d e f g h i : PV) (j k : List (List PV)) (l m : PV) : Q := ⟨38, [a, b, c, d, e, f, g, h, i, .rows j, .rows k, l, m]⟩
abbrev q6b2w (a b c d e f g h i : PV) (j k l : List (List PV)) (m n : PV) : Q := ⟨39, [a, b, c, d, e, f, g, h, i, .rows j, .rows k, .rows l, m, n]⟩
abbrev q6b2x (a b c d e f g h i : PV) (j k l : List (List PV)) (m n : PV) : Q := ⟨40, [a, b, c, d, e, f, g, h, i, .rows j, .rows k, .rows l, m, n]⟩
abbrev q10 (a : PV) : Q := ⟨41, [a]⟩
abbrev q10b0a (a b c : PV) : Q := ⟨42, [a, b, c]⟩
abbrev q10b0b (a b c : PV) (d : List (List PV)) : Q := ⟨43, [a, b, c, .rows d]⟩
abbrev q7 (a b c d e f g h i j k l : PV) : Q := ⟨44, [a, b, c, d, e, f, g, h, i, j, k, l]⟩
abbrev q7b0a (a b c d e f g h i j k l m n o p q r s t u v : PV) : Q := ⟨45, [a, b, c, d, e, f, g, h, i, j, k, l, m, n, o, p, q, r, s, t, u, v]⟩
abbrev q7b0b (a b c d e f g h i j k l m n o p q r s t u : PV) : Q := ⟨46, [a, b, c, d, e, f, g, h, i, j, k, l, m, n, o, p, q, r, s, t, u]⟩
abbrev q7b0c (a b c d e f g h i j k l m n o p q r s t : PV) (u : List (List PV)) (v w : PV) : Q := ⟨47, [a, b, c, d, e, f, g, h, i, j, k, l, m, n, o, p, q, r, s, t, .rows u, v, w]⟩
abbrev q7b0d (a b c d e f g h i j k l m n o p q r s : PV) (t : List (List PV)) (u v : PV) : Q := ⟨48, [a, b, c, d, e, f, g, h, i, j, k, l, m, n, o, p, q, r, s, .rows t, u, v]⟩
abbrev q7b2a (a b c d e f g h i j k l m n o p q r s t u v : PV) : Q := ⟨49, [a, b, c, d, e, f, g, h, i, j, k, l, m, n, o, p, q, r, s, t, u, v]⟩
abbrev q7b2b (a b c d e f g h i j k l m n o p q r s t : PV) (u : List (List PV)) (v w : PV) : Q := ⟨50, [a, b, c, d, e, f, g, h, i, j, k, l, m, n, o, p, q, r, s, t, .rows u, v, w]⟩
abbrev q7b2c (a b c d e f g h i j k l m n o p q r s t : PV) (u : List (List PV)) (v w : PV) : Q := ⟨51, [a, b, c, d, e, f, g, h, i, j, k, l, m, n, o, p, q, r, s, t, .rows u, v, w]⟩
abbrev q7b2d (a b c d e f g h i j k l m n o p q r s t : PV) (u v : List (List PV)) (w x : PV) : Q := ⟨52, [a, b, c, d, e, f, g, h, i, j, k, l, m, n, o, p, q, r, s, t, .rows u, .rows v, w, x]⟩
abbrev q7b2e (a b c d e f g h i j k l m n o p q r s t u : PV) : Q := ⟨53, [a, b, c, d, e, f, g, h, i, j, k, l, m, n, o, p, q, r, s, t, u]⟩
abbrev q7b2f (a b c d e f g h i j k l m n o p q r s : PV) (t : List (List PV)) (u v : PV) : Q := ⟨54, [a, b, c, d, e, f, g, h, i, j, k, l, m, n, o, p, q, r, s, .rows t, u, v]⟩
abbrev q7b2g (a b c d e f g h i j k l m n o p q r s : PV) (t : List (List PV)) (u v : PV) : Q := ⟨55, [a, b, c, d, e, f, g, h, i, j, k, l, m, n, o, p, q, r, s, .rows t, u, v]⟩
abbrev q7b2h (a b c d e f g h i j k l m n o p q r s : PV) (t u : List (List PV)) (v w : PV) : Q := ⟨56, [a, b, c, d, e, f, g, h, i, j, k, l, m, n, o, p, q, r, s, .rows t, .rows u, v, w]⟩
abbrev q7b2i (a b c d e f g h i j k l m n o p q r s : PV) (t : List (List PV)) (u v : PV) : Q := ⟨57, [a, b, c, d, e, f, g, h, i, j, k, l, m, n, o, p, q, r, s, .rows t, u, v]⟩
abbrev q7b2j (a b c d e f g h i j k l m n o p q r s : PV) (t u : List (List PV)) (v w : PV) : Q := ⟨58, [a, b, c, d, e, f, g, h, i, j, k, l, m, n, o, p, q, r, s, .rows t, .rows u, v, w]⟩
abbrev q7b2k (a b c d e f g h i j k l m n o p q r s : PV) (t u : List (List PV)) (v w : PV) : Q := ⟨59, [a, b, c, d, e, f, g, h, i, j, k, l, m, n, o, p, q, r, s, .rows t, .rows u, v, w]⟩
abbrev q7b2l (a b c d e f g h i j k l m n o p q r s : PV) (t u v : List (List PV)) (w x : PV) : Q := ⟨60, [a, b, c, d, e, f, g, h, i, j, k, l, m, n, o, p, q, r, s, .rows t, .rows u, .rows v, w, x]⟩
abbrev q7b2m (a b c d e f g h i j k l m n o p q r s t : PV) (u : List (List PV)) (v w : PV) : Q := ⟨61, [a, b, c, d, e, f, g, h, i, j, k, l, m, n, o, p, q, r, s, t, .rows u, v, w]⟩
abbrev q7b2n (a b c d e f g h i j k l m n o p q r s t : PV) (u : List (List PV)) (v w : PV) : Q := ⟨62, [a, b, c, d, e, f, g, h, i, j, k, l, m, n, o, p, q, r, s, t, .rows u, v, w]⟩
abbrev q7b2o (a b c d e f g h i j k l m n o p q r s t : PV) (u v : List (List PV)) (w x : PV) : Q := ⟨63, [a, b, c, d, e, f, g, h, i, j, k, l, m, n, o, p, q, r, s, t, .rows u, .rows v, w, x]⟩
abbrev q7b2p (a b c d e f g h i j k l m n o p q r s t : PV) (u v : List (List PV)) (w x : PV) : Q := ⟨64, [a, b, c, d, e, f, g, h, i, j, k, l, m, n, o, p, q, r, s, t, .rows u, .rows v, w, x]⟩
abbrev q7b2q (a b c d e f g h i j k l m n o p q r s : PV) (t : List (List PV)) (u v : PV) : Q := ⟨65, [a, b, c, d, e, f, g, h, i, j, k, l, m, n, o, p, q, r, s, .rows t, u, v]⟩
abbrev q7b2r (a b c d e f g h i j k l m n o p q r s : PV) (t : List (List PV)) (u v : PV) : Q := ⟨66, [a, b, c, d, e, f, g, h, i, j, k, l, m, n, o, p, q, r, s, .rows t, u, v]⟩
abbrev q7b2s (a b c d e f g h i j k l m n o p q r s : PV) (t u : List (List PV)) (v w : PV) : Q := ⟨67, [a, b, c, d, e, f, g, h, i, j, k, l, m, n, o, p, q, r, s, .rows t, .rows u, v, w]⟩
abbrev q7b2t (a b c d e f g h i j k l m n o p q r s : PV) (t u : List (List PV)) (v w : PV) : Q := ⟨68, [a, b, c, d, e, f, g, h, i, j, k, l, m, n, o, p, q, r, s, .rows t, .rows u, v, w]⟩
abbrev q7b2u (a b c d e f g h i j k l m n o p q r s : PV) (t u : List (List PV)) (v w : PV) : Q := ⟨69, [a, b, c, d, e, f, g, h, i, j, k, l, m, n, o, p, q, r, s, .rows t, .rows u, v, w]⟩
abbrev q7b2v (a b c d e f g h i j k l m n o p q r s : PV) (t u : List (List PV)) (v w : PV) : Q := ⟨70, [a, b, c, d, e, f, g, h, i, j, k, l, m, n, o, p, q, r, s, .rows t, .rows u, v, w]⟩
abbrev q7b2w (a b c d e f g h i j k l m n o p q r s : PV) (t u v : List (List PV)) (w x : PV) : Q := ⟨71, [a, b, c, d, e, f, g, h, i, j, k, l, m, n, o, p, q, r, s, .rows t, .rows u, .rows v, w, x]⟩
abbrev q7b2x (a b c d e f g h i j k l m n o p q r s : PV) (t u v : List (List PV)) (w x : PV) : Q := ⟨72, [a, b, c, d, e, f, g, h, i, j, k, l, m, n, o, p, q, r, s, .rows t, .rows u, .rows v, w, x]⟩
abbrev q11 (a : PV) : Q := ⟨73, [a]⟩
abbrev q11b0a (a b : PV) : Q := ⟨74, [a, b]⟩
abbrev q11b0b (a b : PV) (c : List (List PV)) : Q := ⟨75, [a, b, .rows c]⟩
abbrev q8 (a b c d e f g h i j k l m n o p q r s t u v : PV) : Q := ⟨76, [a, b, c, d, e, f, g, h, i, j, k, l, m, n, o, p, q, r, s, t, u, v]⟩
abbrev q8b0a (a b c d e f g h i j k l m n o p q r s t u v w : PV) : Q := ⟨77, [a, b, c, d, e, f, g, h, i, j, k, l, m, n, o, p, q, r, s, t, u, v, w]⟩
abbrev q8b2a (a b c d e f g h i j k l m n o p q r s t u v w : PV) : Q := ⟨78, [a, b, c, d, e, f, g, h, i, j, k, l, m, n, o, p, q, r, s, t, u, v, w]⟩
abbrev q9 (a b : PV) : Q := ⟨79, [a, b]⟩
abbrev q9b0a (a b c : PV) : Q := ⟨80, [a, b, c]⟩
abbrev q17 (a b c d e f g h : PV) : Q := ⟨81, [a, b, c, d, e, f, g, h]⟩
abbrev q18 (a b c d e f g h i j : PV) : Q := ⟨82, [a, b, c, d, e, f, g, h, i, j]⟩
abbrev q18b0a (a b c d e f g h i j k : PV) : Q := ⟨83, [a, b, c, d, e, f, g, h, i, j, k]⟩
abbrev q29 (a b : PV) : Q := ⟨84, [a, b]⟩
abbrev q29b0a (a b c : PV) : Q := ⟨85, [a, b, c]⟩
abbrev q10w (a : PV) : Q := ⟨86, [a]⟩
abbrev q6w (a b c d e f g h i j k l : PV) : Q := ⟨87, [a, b, c, d, e, f, g, h, i, j, k, l]⟩
abbrev q11w (a : PV) : Q := ⟨88, [a]⟩
abbrev q7w (a b c d e f g h i j k l : PV) : Q := ⟨89, [a, b, c, d, e, f, g, h, i, j, k, l]⟩
end Go.Proofs.YtlfkefbhdmfllaaGreatDoor
