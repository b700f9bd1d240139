/- What the entries ask and mean, written once. Printed by hq.py. -/
import Derived.Test.YtkfdklocgpgbfaaBc
import Derived.Test.YtkfdklocgpgbfaaBl
import Derived.Test.YtkfdklocgpgbfaaProg
set_option linter.unusedVariables false
set_option linter.unusedSimpArgs false
set_option linter.unusedSectionVars false
namespace Go.Proofs.Ytkfdklocgpgbfaa
open Go.RowKit
noncomputable abbrev PG : Program := Try.prog
abbrev bt : PV := .lit (.bool true)
abbrev bf : PV := .lit (.bool false)
abbrev nS : PV := .lit (.slice none 0 0)
abbrev e0 : PV := .lit (.string ⟨#[]⟩)
abbrev i0 : PV := .lit (.int .i64 0)
abbrev i1 : PV := .lit (.int .i64 1)
abbrev i2 : PV := .lit (.int .i64 2)
abbrev i3 : PV := .lit (.int .i64 3)
abbrev i4 : PV := .lit (.int .i64 4)
abbrev i5 : PV := .lit (.int .i64 5)
abbrev i6 : PV := .lit (.int .i64 6)
abbrev i7 : PV := .lit (.int .i64 7)
abbrev i8 : PV := .lit (.int .i64 8)
abbrev i9 : PV := .lit (.int .i64 9)
abbrev nL : PV := .lit (.slice none 0 0)
noncomputable def cI (s : List PV) (v : PV) (k : List PV → Res) : Res := consK .fail s fun y r => isK .fail v y (k r)
def cC (s : List PV) (k : PV → List PV → Res) : Res := consK .fail s k
def cN (s : List PV) (k : Res) : Res := nilK .fail s k
noncomputable def cL : List PV → List PV → (List PV → Res) → Res
  | [], s, k => k s
  | v :: vs, s, k => cI s v fun s => cL vs s k
@[simp] theorem cI_cons (y : PV) (r : List PV) (v : PV) (k : List PV → Res) : cI (y :: r) v k = isK .fail v y (k r) := rfl
@[simp] theorem cC_cons (y : PV) (r : List PV) (k : PV → List PV → Res) : cC (y :: r) k = k y r := rfl
@[simp] theorem cI_nil (v : PV) (k : List PV → Res) : cI [] v k = .fail := rfl
@[simp] theorem cC_nil (k : PV → List PV → Res) : cC [] k = .fail := rfl
@[simp] theorem cN_nil (k : Res) : cN [] k = k := rfl
@[simp] theorem cN_cons (y : PV) (r : List PV) (k : Res) : cN (y :: r) k = .fail := rfl
@[simp] theorem cL_nil (s : List PV) (k : List PV → Res) : cL [] s k = k s := rfl
@[simp] theorem cL_cons (v : PV) (vs : List PV) (y : PV) (r : List PV) (k : List PV → Res) : cL (v :: vs) (y :: r) k = isK .fail v y (cL vs r k) := rfl
@[simp] theorem cL_out (v : PV) (vs : List PV) (k : List PV → Res) : cL (v :: vs) [] k = .fail := rfl
@[simp] noncomputable def bI (b : BinOp) (t : TypeId) (u v r : PV) (k : Res) : Res := binK PG .fail b t (.pv u) (.pv v) fun w => pvK .fail w fun y => isK .fail r y k
@[simp] noncomputable def bV (b : BinOp) (t : TypeId) (u v : PV) (k : PV → Res) : Res := binK PG .fail b t (.pv u) (.pv v) fun w => pvK .fail w k
@[simp] noncomputable def lV (t : TypeId) (u : PV) (k : PV → Res) : Res := lenK PG .fail t (.pv u) fun w => pvK .fail w k
@[simp] noncomputable def xV (t : TypeId) (u i : PV) (k : List PV → Res) : Res := idxK PG .fail t (.pv u) (.pv i) fun w => cptrK .fail w k
@[simp] noncomputable def sV (t : TypeId) (u i : PV) (k : PV → Res) : Res := slcK PG .fail t (.pv u) none (some (.pv i)) fun w => pvK .fail w k
@[simp] noncomputable def bA (b : BinOp) (t : TypeId) (u v : PV) (k1 k2 : Res) : Res := Res.alt (bI b t u v (.lit (.bool true)) k1) (bI b t u v (.lit (.bool false)) k2)
@[simp] noncomputable def cA (o : Option Rs) (m n : Nat) (k1 k2 : List PV → Res) : Res := Res.alt (callK o m k1) (callK o n k2)

/-- What a program may be read as. -/
class R (T : Type) where
  U : Type
  TW : BinOp → TypeId → PV → PV → T → T → T
  E3 : PV → PV → T → T → T
  L3 : PV → PV → T → T → T
  N3 : PV → PV → T → T → T
  G3 : PV → PV → T → T → T
  H3 : PV → PV → T → T → T
  K3 : PV → PV → T → T → T
  A3 : PV → PV → (PV → T) → T
  S3 : PV → PV → (PV → T) → T
  L : TypeId → PV → (PV → T) → T
  S : TypeId → PV → Option AV → Option AV → (PV → T) → T
  P : TypeId → PV → PV → (PV → T) → T
  P0 : TypeId → PV → PV → T → T
  M : Bool → PV → PV → (PV → T) → T
  SE : PV → PV → Nat → List PV → (PV → T) → T
  MK : TypeId → PV → (PV → T) → T
  AQ : TypeId → PV → PV → (PV → T) → T
  X : TypeId → PV → PV → U → T
  J : T → T → T
  C : Nat → List PV → Nat → U → T
  C0 : Nat → List PV → U → T
  D : Nat → List PV → Nat → Nat → U → U → T
  Q0 : Nat → List PV → T → T → T
  O : Nat → List PV → T
  O0 : List PV → T
  Y : Nat → List PV → T
  z : T → U
  ms : List PV → U → U
  mz : List PV → T → U
  v1 : (PV → U) → U
  w1 : (PV → T) → U
@[simp ↓] abbrev R.v2 {T : Type} [R T] (k : PV → PV → R.U T) : R.U T := R.v1 fun a => R.v1 (k a)
@[simp ↓] abbrev R.v3 {T : Type} [R T] (k : PV → PV → PV → R.U T) : R.U T := R.v1 fun a => R.v2 (k a)
@[simp ↓] abbrev R.v4 {T : Type} [R T] (k : PV → PV → PV → PV → R.U T) : R.U T := R.v1 fun a => R.v3 (k a)
@[simp ↓] abbrev R.v5 {T : Type} [R T] (k : PV → PV → PV → PV → PV → R.U T) : R.U T := R.v1 fun a => R.v4 (k a)
@[simp ↓] abbrev R.v6 {T : Type} [R T] (k : PV → PV → PV → PV → PV → PV → R.U T) : R.U T := R.v1 fun a => R.v5 (k a)
@[simp ↓] abbrev R.w2 {T : Type} [R T] (k : PV → PV → T) : R.U T := R.v1 fun a => R.w1 (k a)
@[simp ↓] abbrev R.w3 {T : Type} [R T] (k : PV → PV → PV → T) : R.U T := R.v1 fun a => R.w2 (k a)
@[simp ↓] abbrev R.w4 {T : Type} [R T] (k : PV → PV → PV → PV → T) : R.U T := R.v1 fun a => R.w3 (k a)
@[simp ↓] abbrev R.w5 {T : Type} [R T] (k : PV → PV → PV → PV → PV → T) : R.U T := R.v1 fun a => R.w4 (k a)
@[simp ↓] abbrev R.w6 {T : Type} [R T] (k : PV → PV → PV → PV → PV → PV → T) : R.U T := R.v1 fun a => R.w5 (k a)
abbrev Rf : Type := Nat → Et
abbrev Ru : Type := Nat → List PV × Et
abbrev Sm : Type := (Q → Option Rs) → Res
abbrev Su : Type := (Q → Option Rs) → List PV → Res
instance : R Rf where
  U := Ru
  TW := fun b t u v x y n => .alt (.say (.bin b t (.pv u) (.pv v) (.pv bt)) (x n)) (.say (.bin b t (.pv u) (.pv v) (.pv bf)) (y n))
  E3 := fun u v x y n => .alt (.say (.bin .eql 3 (.pv u) (.pv v) (.pv bt)) (x n)) (.say (.bin .eql 3 (.pv u) (.pv v) (.pv bf)) (y n))
  L3 := fun u v x y n => .alt (.say (.bin .lss 3 (.pv u) (.pv v) (.pv bt)) (x n)) (.say (.bin .lss 3 (.pv u) (.pv v) (.pv bf)) (y n))
  N3 := fun u v x y n => .alt (.say (.bin .neq 3 (.pv u) (.pv v) (.pv bt)) (x n)) (.say (.bin .neq 3 (.pv u) (.pv v) (.pv bf)) (y n))
  G3 := fun u v x y n => .alt (.say (.bin .gtr 3 (.pv u) (.pv v) (.pv bt)) (x n)) (.say (.bin .gtr 3 (.pv u) (.pv v) (.pv bf)) (y n))
  H3 := fun u v x y n => .alt (.say (.bin .geq 3 (.pv u) (.pv v) (.pv bt)) (x n)) (.say (.bin .geq 3 (.pv u) (.pv v) (.pv bf)) (y n))
  K3 := fun u v x y n => .alt (.say (.bin .leq 3 (.pv u) (.pv v) (.pv bt)) (x n)) (.say (.bin .leq 3 (.pv u) (.pv v) (.pv bf)) (y n))
  A3 := fun u v k n => .say (.bin .add 3 (.pv u) (.pv v) (.pv (.sym n))) (k (.sym n) (n + 1))
  S3 := fun u v k n => .say (.bin .sub 3 (.pv u) (.pv v) (.pv (.sym n))) (k (.sym n) (n + 1))
  L := fun t u k n => .say (.len t (.pv u) (.pv (.sym n))) (k (.sym n) (n + 1))
  S := fun t u a b k n => .say (.slc t (.pv u) a b (.pv (.sym n))) (k (.sym n) (n + 1))
  P := fun t u x k n => .say (.app t (.pv u) (.pv x) n) (k (.sym n) (n + 1))
  P0 := fun t u x y n => .say (.app0 t (.pv u) (.pv x)) (y n)
  M := fun t u x k n => .say (.mx t (.pv u) (.pv x) (.pv (.sym n))) (k (.sym n) (n + 1))
  SE := fun p i o c k n => .say (.set p i o c n) (k (.sym n) (n + 1))
  MK := fun t u k n => .say (.mk t (.pv u) n) (k (.sym n) (n + 1))
  AQ := fun t u x k n => .say (.apq t (.pv u) (.pv x) n) (k (.sym n) (n + 1))
  X := fun t u i k n => .say (.idx t (.pv u) (.pv i) (.cptr (k n).1)) (k n).2
  J := fun x y n => .alt (x n) (y n)
  C := fun q p s k n => .call q p s (k n).1 (k n).2
  C0 := fun q p k n => .call q p 0 (k n).1 (k n).2
  D := fun q p s t k l n => .alt (.call q p s (k n).1 (k n).2) (.call q p t (l n).1 (l n).2)
  Q0 := fun q p x y n => .alt (.call q p 0 [bt] (x n)) (.call q p 0 [bf] (y n))
  O := fun s p n => .out s p
  O0 := fun p n => .out 0 p
  Y := fun q p n => .goto q p
  z := fun x n => ([], x n)
  ms := fun p k n => (p ++ (k n).1, (k n).2)
  mz := fun p x n => (p, x n)
  v1 := fun k n => ([.sym n] ++ (k (.sym n) (n + 1)).1, (k (.sym n) (n + 1)).2)
  w1 := fun k n => ([.sym n], k (.sym n) (n + 1))
noncomputable instance : R Sm where
  U := Su
  TW := fun b t u v x y O => bA b t u v (x O) (y O)
  E3 := fun u v x y O => bA .eql 3 u v (x O) (y O)
  L3 := fun u v x y O => bA .lss 3 u v (x O) (y O)
  N3 := fun u v x y O => bA .neq 3 u v (x O) (y O)
  G3 := fun u v x y O => bA .gtr 3 u v (x O) (y O)
  H3 := fun u v x y O => bA .geq 3 u v (x O) (y O)
  K3 := fun u v x y O => bA .leq 3 u v (x O) (y O)
  A3 := fun u v k O => bV .add 3 u v fun y => k y O
  S3 := fun u v k O => bV .sub 3 u v fun y => k y O
  L := fun t u k O => lV t u fun y => k y O
  S := fun t u a b k O => slcK PG .fail t (.pv u) a b fun w => pvK .fail w fun y => k y O
  P := fun t u x k O => appK PG .fail t (.pv u) (.pv x) fun y => k y O
  P0 := fun t u x y O => app0K PG .fail t (.pv u) (.pv x) (y O)
  M := fun t u x k O => mxK PG .fail t (.pv u) (.pv x) fun w => pvK .fail w fun y => k y O
  SE := fun p i o c k O => setK .fail p i o c fun y => k y O
  MK := fun t u k O => mkK PG .fail t (.pv u) fun y => k y O
  AQ := fun t u x k O => appK PG .fail t (.pv u) (.pv x) fun y => k y O
  X := fun t u i k O => xV t u i fun s => k O s
  J := fun x y O => Res.alt (x O) (y O)
  C := fun q p s k O => callK (O ⟨q, p⟩) s fun s => k O s
  C0 := fun q p k O => callK (O ⟨q, p⟩) 0 fun s => k O s
  D := fun q p s t k l O => cA (O ⟨q, p⟩) s t (fun s => k O s) fun s => l O s
  Q0 := fun q p x y O => cA (O ⟨q, p⟩) 0 0 (fun s => cI s bt fun s => cN s (x O)) fun s => cI s bf fun s => cN s (y O)
  O := fun s p O => .ok (s, p)
  O0 := fun p O => .ok (0, p)
  Y := fun q p O => passK (O ⟨q, p⟩)
  z := fun x O s => cN s (x O)
  ms := fun p k O s => cL p s (k O)
  mz := fun p x O s => cL p s fun s => cN s (x O)
  v1 := fun k O s => cC s fun av s => k av O s
  w1 := fun k O s => cC s fun av s => cN s (k av O)
@[simp ↓] theorem m_TW {b : BinOp} {t : TypeId} {u v : PV} {x y : Sm} {O} : R.TW (T := Sm) b t u v x y O = bA b t u v (x O) (y O) := rfl
@[simp ↓] theorem m_E3 {u v : PV} {x y : Sm} {O} : R.E3 (T := Sm) u v x y O = bA .eql 3 u v (x O) (y O) := rfl
@[simp ↓] theorem m_L3 {u v : PV} {x y : Sm} {O} : R.L3 (T := Sm) u v x y O = bA .lss 3 u v (x O) (y O) := rfl
@[simp ↓] theorem m_N3 {u v : PV} {x y : Sm} {O} : R.N3 (T := Sm) u v x y O = bA .neq 3 u v (x O) (y O) := rfl
@[simp ↓] theorem m_G3 {u v : PV} {x y : Sm} {O} : R.G3 (T := Sm) u v x y O = bA .gtr 3 u v (x O) (y O) := rfl
@[simp ↓] theorem m_H3 {u v : PV} {x y : Sm} {O} : R.H3 (T := Sm) u v x y O = bA .geq 3 u v (x O) (y O) := rfl
@[simp ↓] theorem m_K3 {u v : PV} {x y : Sm} {O} : R.K3 (T := Sm) u v x y O = bA .leq 3 u v (x O) (y O) := rfl
@[simp ↓] theorem m_A3 {u v : PV} {k : PV → Sm} {O} : R.A3 (T := Sm) u v k O = bV .add 3 u v fun y => k y O := rfl
@[simp ↓] theorem m_S3 {u v : PV} {k : PV → Sm} {O} : R.S3 (T := Sm) u v k O = bV .sub 3 u v fun y => k y O := rfl
@[simp ↓] theorem m_L {t : TypeId} {u : PV} {k : PV → Sm} {O} : R.L (T := Sm) t u k O = lV t u fun y => k y O := rfl
@[simp ↓] theorem m_S {t : TypeId} {u : PV} {a b : Option AV} {k : PV → Sm} {O} : R.S (T := Sm) t u a b k O = slcK PG .fail t (.pv u) a b fun w => pvK .fail w fun y => k y O := rfl
@[simp ↓] theorem m_P {t : TypeId} {u x : PV} {k : PV → Sm} {O} : R.P (T := Sm) t u x k O = appK PG .fail t (.pv u) (.pv x) fun y => k y O := rfl
@[simp ↓] theorem m_P0 {t : TypeId} {u x : PV} {y : Sm} {O} : R.P0 (T := Sm) t u x y O = app0K PG .fail t (.pv u) (.pv x) (y O) := rfl
@[simp ↓] theorem m_M {t : Bool} {u x : PV} {k : PV → Sm} {O} : R.M (T := Sm) t u x k O = mxK PG .fail t (.pv u) (.pv x) fun w => pvK .fail w fun y => k y O := rfl
@[simp ↓] theorem m_SE {p i : PV} {o : Nat} {c : List PV} {k : PV → Sm} {O} : R.SE (T := Sm) p i o c k O = setK .fail p i o c fun y => k y O := rfl
@[simp ↓] theorem m_MK {t : TypeId} {u : PV} {k : PV → Sm} {O} : R.MK (T := Sm) t u k O = mkK PG .fail t (.pv u) fun y => k y O := rfl
@[simp ↓] theorem m_AQ {t : TypeId} {u x : PV} {k : PV → Sm} {O} : R.AQ (T := Sm) t u x k O = appK PG .fail t (.pv u) (.pv x) fun y => k y O := rfl
@[simp ↓] theorem m_X {t : TypeId} {u i : PV} {k : Su} {O} : R.X (T := Sm) t u i k O = xV t u i fun s => k O s := rfl
@[simp ↓] theorem m_J {x y : Sm} {O} : R.J (T := Sm) x y O = Res.alt (x O) (y O) := rfl
@[simp ↓] theorem m_C {q : Nat} {p : List PV} {s : Nat} {k : Su} {O} : R.C (T := Sm) q p s k O = callK (O ⟨q, p⟩) s fun s => k O s := rfl
@[simp ↓] theorem m_C0 {q : Nat} {p : List PV} {k : Su} {O} : R.C0 (T := Sm) q p k O = callK (O ⟨q, p⟩) 0 fun s => k O s := rfl
@[simp ↓] theorem m_D {q : Nat} {p : List PV} {s t : Nat} {k l : Su} {O} : R.D (T := Sm) q p s t k l O = cA (O ⟨q, p⟩) s t (fun s => k O s) fun s => l O s := rfl
@[simp ↓] theorem m_Q0 {q : Nat} {p : List PV} {x y : Sm} {O} : R.Q0 (T := Sm) q p x y O = cA (O ⟨q, p⟩) 0 0 (fun s => cI s bt fun s => cN s (x O)) fun s => cI s bf fun s => cN s (y O) := rfl
@[simp ↓] theorem m_O {s : Nat} {p : List PV} {O} : R.O (T := Sm) s p O = .ok (s, p) := rfl
@[simp ↓] theorem m_O0 {p : List PV} {O} : R.O0 (T := Sm) p O = .ok (0, p) := rfl
@[simp ↓] theorem m_Y {q : Nat} {p : List PV} {O} : R.Y (T := Sm) q p O = passK (O ⟨q, p⟩) := rfl
@[simp ↓] theorem m_z {x : Sm} {O} {s : List PV} : R.z (T := Sm) x O s = cN s (x O) := rfl
@[simp ↓] theorem m_ms {p : List PV} {k : Su} {O} {s : List PV} : R.ms (T := Sm) p k O s = cL p s (k O) := rfl
@[simp ↓] theorem m_mz {p : List PV} {x : Sm} {O} {s : List PV} : R.mz (T := Sm) p x O s = cL p s fun s => cN s (x O) := rfl
@[simp ↓] theorem m_v1 {k : PV → Su} {O} {s : List PV} : R.v1 (T := Sm) k O s = cC s fun av s => k av O s := rfl
@[simp ↓] theorem m_w1 {k : PV → Sm} {O} {s : List PV} : R.w1 (T := Sm) k O s = cC s fun av s => cN s (k av O) := rfl
section
open R
variable {T : Type} [R T]
def g9 (a : PV) : T := L 22 a fun b=>D 1 [i0,b,a,b,a] 1 0 (mz [a,b] (MK 31 b fun c=>L 31 c fun d=>C0 3 [i0,d,a,c,c,c] (ms [a,nS,nS,c,c] (w1 fun e=>J (D 4 [a,c,c,e] 0 1 (ms [a,nS,nS] (w3 fun f g h=>C0 9 [a,f,g,h] (ms [a,nS,nS,f,g,h] (w1 fun i=>O0 [i,i0])))) (ms [a,nS] (w4 fun f g h i=>C0 11 [a,f,g,h,i] (ms [a,nS,f,g,h,i] (w1 fun j=>O0 [j,i0]))))) (D 4 [a,c,c,e] 2 3 (ms [a,nS] (w4 fun f g h i=>C0 16 [a,f,g,h,i] (ms [a,nS,f,g,h,i] (w1 fun j=>O0 [j,i0])))) (ms [a] (w5 fun f g h i j=>C0 18 [a,f,g,h,i,j] (ms [a,f,g,h,i,j] (w1 fun k=>O0 [k,i0]))))))))) (w2 fun c d=>O0 [c,d])
def g9b0a (a b c d e : PV) : T := L3 a b (X 22 c a (w1 fun f=>L 31 f fun g=>D 2 [i0,g,f,d,a,b,c,e] 1 0 (mz [a,b,c,d,e] (A3 a i1 fun h=>Y 1 [h,b,c,d,e])) (w2 fun h i=>O0 [h,i]))) (O 1 [e,d])
def g9b2a (a b c d e f g h : PV) : T := L3 a b (X 31 c a (w1 fun i=>L3 i i0 (O0 [nS,i2]) (H3 i d (O0 [nS,i2]) (A3 a i1 fun j=>Y 2 [j,b,c,d,e,f,g,h])))) (O 1 [e,f,g,d,h])
def g9b4a (a b c d e f : PV) : T := L3 a b (X 31 f a (w1 fun g=>SE f a 0 [(iv (-1))] fun h=>A3 a i1 fun i=>Y 3 [i,b,c,d,e,h])) (O0 [c,nS,nS,d,e,f])
def g17a (a b c d : PV) : T := L 22 a fun e=>J (D 5 [i0,e,a,b,c,d,i0] 0 1 (ms [a,nS,nS] (w4 fun f g h i=>O0 [a,nS,nS,f,g,h])) (ms [a,nS] (w5 fun f g h i j=>O 1 [a,nS,f,g,h,j]))) (D 5 [i0,e,a,b,c,d,i0] 2 3 (ms [a,nS] (w5 fun f g h i j=>O 2 [a,nS,f,g,h,j])) (ms [a] (w6 fun f g h i j k=>O 3 [a,f,g,h,j,k])))
def g17ab0a (a b c d e f g : PV) : T := L3 a b (X 31 d a (w1 fun h=>E3 h i0 (D 23 [a,g,c,d,e,f] 0 1 (v1 fun i=>ms [c,nS] (w4 fun j k l m=>A3 a i1 fun n=>Y 7 [n,b,c,j,k,l,i,m])) (v1 fun i=>ms [c] (w5 fun j k l m n=>A3 a i1 fun o=>Y 8 [o,b,c,j,k,l,i,m,n]))) (A3 a i1 fun i=>Y 5 [i,b,c,d,e,f,g]))) (O0 [c,nS,nS,d,e,f,g])
def g17ab0b (a b c d e f g h : PV) : T := L3 a b (X 31 d a (w1 fun i=>E3 i i0 (D 30 [a,g,c,d,e,f,h] 0 1 (v1 fun j=>ms [c] (v3 fun k l m=>ms [h] (w1 fun n=>A3 a i1 fun o=>Y 8 [o,b,c,k,l,m,j,n,h]))) (v1 fun j=>ms [c] (w5 fun k l m n o=>A3 a i1 fun p=>Y 8 [p,b,c,k,l,m,j,n,o]))) (A3 a i1 fun j=>Y 6 [j,b,c,d,e,f,g,h]))) (O 1 [c,nS,d,e,f,g,h])
def g17ab0c (a b c d e f g h : PV) : T := L3 a b (X 31 d a (w1 fun i=>E3 i i0 (D 36 [a,g,c,d,e,f,h] 0 1 (v1 fun j=>ms [c,nS] (w4 fun k l m n=>A3 a i1 fun o=>Y 7 [o,b,c,k,l,m,j,n])) (v1 fun j=>ms [c] (w5 fun k l m n o=>A3 a i1 fun p=>Y 8 [p,b,c,k,l,m,j,n,o]))) (A3 a i1 fun j=>Y 7 [j,b,c,d,e,f,g,h]))) (O 2 [c,nS,d,e,f,g,h])
def g17ab0d (a b c d e f g h i : PV) : T := L3 a b (X 31 d a (w1 fun j=>E3 j i0 (D 43 [a,g,c,d,e,f,h,i] 0 1 (v1 fun k=>ms [c] (v3 fun l m n=>ms [i] (w1 fun o=>A3 a i1 fun p=>Y 8 [p,b,c,l,m,n,k,o,i]))) (v1 fun k=>ms [c] (w5 fun l m n o p=>A3 a i1 fun q=>Y 8 [q,b,c,l,m,n,k,o,p]))) (A3 a i1 fun k=>Y 8 [k,b,c,d,e,f,g,h,i]))) (O 3 [c,d,e,f,g,h,i])
def g18a (a b c d : PV) : T := C0 10 [a,b,c,d] (mz [a,nS,nS,b,c,d,nS] (O0 [a,nS,nS,b,c,d,nS]))
def g18ab0a (a b c d : PV) : T := O0 [a,nS,nS,b,c,d,nS]
def g18b (a b c d e : PV) : T := L 22 e fun f=>MK 34 f fun g=>D 12 [a,b,c,d,e,g] 0 1 (ms [a,nS,b,c,d,e] (v1 fun h=>mz [nS] (O0 [a,nS,b,c,d,e,nS]))) (ms [a,nS,b,c,d,e] (w2 fun h i=>O0 [a,nS,b,c,d,e,i]))
def g18bb0a (a b c d e f : PV) : T := L 22 e fun g=>L3 i0 g (L 22 a fun h=>D 14 [i0,h,a,b,c,d,e,f] 1 0 (ms [a,nS,b,c,d,e] (v1 fun i=>mz [nS] (Y 12 [a,b,c,d,e,i]))) (ms [a,nS,b,c,d,e] (w2 fun i j=>Y 13 [a,b,c,d,e,i,j]))) (O0 [a,nS,b,c,d,e,f,nS])
def g18bb0b (a b c d e f g : PV) : T := L 22 g fun h=>L 22 e fun i=>L3 h i (L 22 a fun j=>D 15 [i0,j,a,b,c,d,e,f,g] 1 0 (ms [a,nS,b,c,d,e] (v1 fun k=>mz [g] (Y 13 [a,b,c,d,e,k,g]))) (ms [a,nS,b,c,d,e] (w2 fun k l=>Y 13 [a,b,c,d,e,k,l]))) (O 1 [a,nS,b,c,d,e,f,g])
def g18bb2a (a b c d e f g h : PV) : T := L3 a b (X 31 f a (w1 fun i=>J (X 34 h i (mz [bt] (A3 a i1 fun j=>Y 14 [j,b,c,d,e,f,g,h]))) (X 34 h i (mz [bf] (X 22 g i (w1 fun j=>X 31 j i0 (w1 fun k=>E3 k a (D 49 [j,c,d,e,f,g,h] 0 0 (mz [c,nS,d,e,f,g,h,bt] (SE h i 0 [bt] fun l=>AQ 22 nS (.rows [[j]]) fun m=>O0 [c,nS,d,e,f,g,l,m])) (mz [c,nS,d,e,f,g,h,bf] (A3 a i1 fun l=>Y 14 [l,b,c,d,e,f,g,h]))) (A3 a i1 fun l=>Y 14 [l,b,c,d,e,f,g,h])))))))) (O 1 [c,nS,d,e,f,g,h,nS])
def g18bb2b (a b c d e f g h i : PV) : T := L3 a b (X 31 f a (w1 fun j=>J (X 34 h j (mz [bt] (A3 a i1 fun k=>Y 15 [k,b,c,d,e,f,g,h,i]))) (X 34 h j (mz [bf] (X 22 g j (w1 fun k=>X 31 k i0 (w1 fun l=>E3 l a (D 49 [k,c,d,e,f,g,h] 0 0 (mz [c,nS,d,e,f,g,h,bt] (SE h j 0 [bt] fun m=>AQ 22 i (.rows [[k]]) fun n=>O0 [c,nS,d,e,f,g,m,n])) (mz [c,nS,d,e,f,g,h,bf] (A3 a i1 fun m=>Y 15 [m,b,c,d,e,f,g,h,i]))) (A3 a i1 fun m=>Y 15 [m,b,c,d,e,f,g,h,i])))))))) (O 1 [c,nS,d,e,f,g,h,i])
def g18c (a b c d e : PV) : T := C 17 [a,b,c,d,e] 2 (mz [a,nS,b,c,d,e,nS] (O0 [a,nS,b,c,d,e,nS]))
def g18cb0a (a b c d e : PV) : T := O 2 [a,nS,b,c,d,e,nS]
def g18d (a b c d e f : PV) : T := L 22 f fun g=>MK 34 g fun h=>D 19 [a,b,c,d,e,f,h] 0 1 (ms [a,b,c,d,e,f] (v1 fun i=>mz [nS] (O0 [a,b,c,d,e,f,nS]))) (ms [a,b,c,d,e,f] (w2 fun i j=>O0 [a,b,c,d,e,f,j]))
def g18db0a (a b c d e f g : PV) : T := L 22 f fun h=>L3 i0 h (L 22 a fun i=>D 21 [i0,i,a,b,c,d,e,f,g] 3 2 (ms [a,b,c,d,e,f] (v1 fun j=>mz [nS] (Y 19 [a,b,c,d,e,f,j]))) (ms [a,b,c,d,e,f] (w2 fun j k=>Y 20 [a,b,c,d,e,f,j,k]))) (O0 [a,b,c,d,e,f,g,nS])
def g18db0b (a b c d e f g h : PV) : T := L 22 h fun i=>L 22 f fun j=>L3 i j (L 22 a fun k=>D 22 [i0,k,a,b,c,d,e,f,g,h] 1 0 (ms [a,b,c,d,e,f] (v1 fun l=>mz [h] (Y 20 [a,b,c,d,e,f,l,h]))) (ms [a,b,c,d,e,f] (w2 fun l m=>Y 20 [a,b,c,d,e,f,l,m]))) (O 1 [a,b,c,d,e,f,g,h])
def g18db2a (a b c d e f g h i : PV) : T := L3 a b (X 31 f a (w1 fun j=>J (X 34 i j (mz [bt] (A3 a i1 fun k=>Y 21 [k,b,c,d,e,f,g,h,i]))) (X 34 i j (mz [bf] (X 22 h j (w1 fun k=>X 31 k i0 (w1 fun l=>E3 l a (D 52 [k,c,d,e,f,g,h,i] 0 0 (mz [c,d,e,f,g,h,i,bt] (SE i j 0 [bt] fun m=>AQ 22 nS (.rows [[k]]) fun n=>O 2 [c,d,e,f,g,h,m,n])) (mz [c,d,e,f,g,h,i,bf] (A3 a i1 fun m=>Y 21 [m,b,c,d,e,f,g,h,i]))) (A3 a i1 fun m=>Y 21 [m,b,c,d,e,f,g,h,i])))))))) (O 3 [c,d,e,f,g,h,i,nS])
def g18db2b (a b c d e f g h i j : PV) : T := L3 a b (X 31 f a (w1 fun k=>J (X 34 i k (mz [bt] (A3 a i1 fun l=>Y 22 [l,b,c,d,e,f,g,h,i,j]))) (X 34 i k (mz [bf] (X 22 h k (w1 fun l=>X 31 l i0 (w1 fun m=>E3 m a (D 52 [l,c,d,e,f,g,h,i] 0 0 (mz [c,d,e,f,g,h,i,bt] (SE i k 0 [bt] fun n=>AQ 22 j (.rows [[l]]) fun o=>O0 [c,d,e,f,g,h,n,o])) (mz [c,d,e,f,g,h,i,bf] (A3 a i1 fun n=>Y 22 [n,b,c,d,e,f,g,h,i,j]))) (A3 a i1 fun n=>Y 22 [n,b,c,d,e,f,g,h,i,j])))))))) (O 1 [c,d,e,f,g,h,i,j])
def g25a (a b c d e f : PV) : T := A3 b i1 fun g=>X 31 d a (w1 fun h=>SE d a 0 [g] fun i=>X 31 e a (w1 fun j=>SE e a 0 [g] fun k=>AQ 31 nS (.rows [[a]]) fun l=>X 22 c a (w1 fun m=>L 31 m fun n=>J (D 24 [i0,n,m,a,c,i,k,f,l,g] 0 1 (ms [c,nS] (v3 fun o p q=>ms [l] (v1 fun r=>mz [a] (X 31 p a (w1 fun s=>X 31 o a (w1 fun t=>L3 s t (O0 [r,c,nS,o,p,q,l]) (C0 55 [a,l] (ms [l] (w1 fun u=>S 31 l (some (.pv u)) none fun v=>C0 57 [u,v,l] (mz [l,u,v] (C0 91 [u,v,l] (ms [u,v,l] (w1 fun w=>S 31 l none (some (.pv u)) fun x=>L 31 w fun y=>C0 28 [i0,y,w,w,c,o,p,q,x] (ms [c,nS,o,p] (v1 fun z=>mz [x,w] (AQ 22 nS (.rows [[w]]) fun a0=>O 1 [r,c,o,p,z,x,a0])))))))))))))))) (ms [c] (v3 fun o p q=>ms [l] (v2 fun r s=>mz [a] (X 31 p a (w1 fun t=>X 31 o a (w1 fun u=>L3 t u (O 1 [r,c,o,p,q,l,s]) (C0 55 [a,l] (ms [l] (w1 fun v=>S 31 l (some (.pv v)) none fun w=>C0 57 [v,w,l] (mz [l,v,w] (C0 91 [v,w,l] (ms [v,w,l] (w1 fun x=>S 31 l none (some (.pv v)) fun y=>L 31 x fun z=>C0 29 [i0,z,x,x,c,o,p,q,y,s] (ms [c,o,p] (v1 fun a0=>mz [y,s,x] (AQ 22 s (.rows [[x]]) fun b0=>O 1 [r,c,o,p,a0,y,b0]))))))))))))))))) (D 24 [i0,n,m,a,c,i,k,f,l,g] 2 3 (ms [c,nS] (v5 fun o p q r s=>mz [a] (X 31 p a (w1 fun t=>X 31 o a (w1 fun u=>L3 t u (O0 [r,c,nS,o,p,q,s]) (C0 55 [a,s] (ms [s] (w1 fun v=>S 31 s (some (.pv v)) none fun w=>C0 57 [v,w,s] (mz [s,v,w] (C0 91 [v,w,s] (ms [v,w,s] (w1 fun x=>S 31 s none (some (.pv v)) fun y=>L 31 x fun z=>C0 28 [i0,z,x,x,c,o,p,q,y] (ms [c,nS,o,p] (v1 fun a0=>mz [y,x] (AQ 22 nS (.rows [[x]]) fun b0=>O 1 [r,c,o,p,a0,y,b0]))))))))))))))) (ms [c] (v6 fun o p q r s t=>mz [a] (X 31 p a (w1 fun u=>X 31 o a (w1 fun v=>L3 u v (O 1 [r,c,o,p,q,s,t]) (C0 55 [a,s] (ms [s] (w1 fun w=>S 31 s (some (.pv w)) none fun x=>C0 57 [w,x,s] (mz [s,w,x] (C0 91 [w,x,s] (ms [w,x,s] (w1 fun y=>S 31 s none (some (.pv w)) fun z=>L 31 y fun a0=>C0 29 [i0,a0,y,y,c,o,p,q,z,t] (ms [c,o,p] (v1 fun b0=>mz [z,t,y] (AQ 22 t (.rows [[y]]) fun c0=>O 1 [r,c,o,p,b0,z,c0])))))))))))))))))))
def g25ab0a (a b c d e f g h i j : PV) : T := L3 a b (X 31 c a (w1 fun k=>X 31 f k (w1 fun l=>E3 l i0 (D 36 [k,j,e,f,g,h,i] 0 1 (v1 fun m=>ms [e,nS] (w4 fun n o p q=>X 31 o d (w1 fun r=>X 31 o k (w1 fun s=>M true r s fun t=>SE o d 0 [t] fun u=>A3 a i1 fun v=>Y 26 [v,b,c,d,e,n,u,p,m,q])))) (v1 fun m=>ms [e] (w5 fun n o p q r=>X 31 o d (w1 fun s=>X 31 o k (w1 fun t=>M true s t fun u=>SE o d 0 [u] fun v=>A3 a i1 fun w=>Y 27 [w,b,c,d,e,n,v,p,m,q,r]))))) (X 31 h k (w1 fun m=>L3 m i0 (X 31 g d (w1 fun n=>M true n l fun o=>SE g d 0 [o] fun p=>A3 a i1 fun q=>Y 24 [q,b,c,d,e,f,p,h,i,j])) (A3 a i1 fun n=>Y 24 [n,b,c,d,e,f,g,h,i,j])))))) (O0 [e,nS,f,g,h,i,j,d])
def g25ab0b (a b c d e f g h i j k : PV) : T := L3 a b (X 31 c a (w1 fun l=>X 31 f l (w1 fun m=>E3 m i0 (D 43 [l,j,e,f,g,h,i,k] 0 1 (v1 fun n=>ms [e] (v3 fun o p q=>ms [k] (w1 fun r=>X 31 p d (w1 fun s=>X 31 p l (w1 fun t=>M true s t fun u=>SE p d 0 [u] fun v=>A3 a i1 fun w=>Y 27 [w,b,c,d,e,o,v,q,n,r,k]))))) (v1 fun n=>ms [e] (w5 fun o p q r s=>X 31 p d (w1 fun t=>X 31 p l (w1 fun u=>M true t u fun v=>SE p d 0 [v] fun w=>A3 a i1 fun x=>Y 27 [x,b,c,d,e,o,w,q,n,r,s]))))) (X 31 h l (w1 fun n=>L3 n i0 (X 31 g d (w1 fun o=>M true o m fun p=>SE g d 0 [p] fun q=>A3 a i1 fun r=>Y 25 [r,b,c,d,e,f,q,h,i,j,k])) (A3 a i1 fun o=>Y 25 [o,b,c,d,e,f,g,h,i,j,k])))))) (O 1 [e,f,g,h,i,j,k,d])
def g25ab0c (a b c d e f g h i j : PV) : T := L3 a b (X 31 c a (w1 fun k=>X 31 f k (w1 fun l=>E3 l i0 (D 36 [k,i,e,f,g,h,j] 0 1 (v1 fun m=>ms [e,nS] (w4 fun n o p q=>X 31 o d (w1 fun r=>X 31 o k (w1 fun s=>M true r s fun t=>SE o d 0 [t] fun u=>A3 a i1 fun v=>Y 26 [v,b,c,d,e,n,u,p,m,q])))) (v1 fun m=>ms [e] (w5 fun n o p q r=>X 31 o d (w1 fun s=>X 31 o k (w1 fun t=>M true s t fun u=>SE o d 0 [u] fun v=>A3 a i1 fun w=>Y 27 [w,b,c,d,e,n,v,p,m,q,r]))))) (X 31 h k (w1 fun m=>L3 m i0 (X 31 g d (w1 fun n=>M true n l fun o=>SE g d 0 [o] fun p=>A3 a i1 fun q=>Y 26 [q,b,c,d,e,f,p,h,i,j])) (A3 a i1 fun n=>Y 26 [n,b,c,d,e,f,g,h,i,j])))))) (O 2 [e,nS,f,g,h,i,j,d])
def g25ab0d (a b c d e f g h i j k : PV) : T := L3 a b (X 31 c a (w1 fun l=>X 31 f l (w1 fun m=>E3 m i0 (D 43 [l,i,e,f,g,h,j,k] 0 1 (v1 fun n=>ms [e] (v3 fun o p q=>ms [k] (w1 fun r=>X 31 p d (w1 fun s=>X 31 p l (w1 fun t=>M true s t fun u=>SE p d 0 [u] fun v=>A3 a i1 fun w=>Y 27 [w,b,c,d,e,o,v,q,n,r,k]))))) (v1 fun n=>ms [e] (w5 fun o p q r s=>X 31 p d (w1 fun t=>X 31 p l (w1 fun u=>M true t u fun v=>SE p d 0 [v] fun w=>A3 a i1 fun x=>Y 27 [x,b,c,d,e,o,w,q,n,r,s]))))) (X 31 h l (w1 fun n=>L3 n i0 (X 31 g d (w1 fun o=>M true o m fun p=>SE g d 0 [p] fun q=>A3 a i1 fun r=>Y 27 [r,b,c,d,e,f,q,h,i,j,k])) (A3 a i1 fun o=>Y 27 [o,b,c,d,e,f,g,h,i,j,k])))))) (O 3 [e,f,g,h,i,j,k,d])
def g25ab3a (a b c d e f g h i : PV) : T := L3 a b (X 31 c a (w1 fun j=>X 31 h j (w1 fun k=>SE h j 0 [i0] fun l=>A3 a i1 fun m=>Y 28 [m,b,c,d,e,f,g,l,i]))) (O0 [e,nS,f,g,h,i,d])
def g25ab3b (a b c d e f g h i j : PV) : T := L3 a b (X 31 c a (w1 fun k=>L 22 j fun l=>X 31 h k (w1 fun m=>SE h k 0 [l] fun n=>A3 a i1 fun o=>Y 29 [o,b,c,d,e,f,g,n,i,j]))) (O0 [e,f,g,h,i,j,d])
def g25b (a b c d e f g : PV) : T := A3 b i1 fun h=>X 31 d a (w1 fun i=>SE d a 0 [h] fun j=>X 31 e a (w1 fun k=>SE e a 0 [h] fun l=>AQ 31 nS (.rows [[a]]) fun m=>X 22 c a (w1 fun n=>L 31 n fun o=>J (D 31 [i0,o,n,a,c,j,l,f,m,g,h] 0 1 (ms [c] (v3 fun p q r=>ms [m,g] (v1 fun s=>mz [a] (X 31 q a (w1 fun t=>X 31 p a (w1 fun u=>L3 t u (O0 [s,c,p,q,r,g,m]) (C0 55 [a,m] (ms [m] (w1 fun v=>S 31 m (some (.pv v)) none fun w=>C0 57 [v,w,m] (mz [m,v,w] (C0 91 [v,w,m] (ms [v,w,m] (w1 fun x=>S 31 m none (some (.pv v)) fun y=>L 31 x fun z=>C0 29 [i0,z,x,x,c,p,q,r,y,g] (ms [c,p,q] (v1 fun a0=>mz [y,g,x] (AQ 22 g (.rows [[x]]) fun b0=>O 1 [s,c,p,q,a0,y,b0])))))))))))))))) (ms [c] (v3 fun p q r=>ms [m] (v2 fun s t=>mz [a] (X 31 q a (w1 fun u=>X 31 p a (w1 fun v=>L3 u v (O 1 [s,c,p,q,r,m,t]) (C0 55 [a,m] (ms [m] (w1 fun w=>S 31 m (some (.pv w)) none fun x=>C0 57 [w,x,m] (mz [m,w,x] (C0 91 [w,x,m] (ms [w,x,m] (w1 fun y=>S 31 m none (some (.pv w)) fun z=>L 31 y fun a0=>C0 29 [i0,a0,y,y,c,p,q,r,z,t] (ms [c,p,q] (v1 fun b0=>mz [z,t,y] (AQ 22 t (.rows [[y]]) fun c0=>O 1 [s,c,p,q,b0,z,c0]))))))))))))))))) (D 31 [i0,o,n,a,c,j,l,f,m,g,h] 2 3 (ms [c] (v3 fun p q r=>ms [g] (v2 fun s t=>mz [a] (X 31 q a (w1 fun u=>X 31 p a (w1 fun v=>L3 u v (O0 [s,c,p,q,r,g,t]) (C0 55 [a,t] (ms [t] (w1 fun w=>S 31 t (some (.pv w)) none fun x=>C0 57 [w,x,t] (mz [t,w,x] (C0 91 [w,x,t] (ms [w,x,t] (w1 fun y=>S 31 t none (some (.pv w)) fun z=>L 31 y fun a0=>C0 29 [i0,a0,y,y,c,p,q,r,z,g] (ms [c,p,q] (v1 fun b0=>mz [z,g,y] (AQ 22 g (.rows [[y]]) fun c0=>O 1 [s,c,p,q,b0,z,c0])))))))))))))))) (ms [c] (v6 fun p q r s t u=>mz [a] (X 31 q a (w1 fun v=>X 31 p a (w1 fun w=>L3 v w (O 1 [s,c,p,q,r,t,u]) (C0 55 [a,t] (ms [t] (w1 fun x=>S 31 t (some (.pv x)) none fun y=>C0 57 [x,y,t] (mz [t,x,y] (C0 91 [x,y,t] (ms [x,y,t] (w1 fun z=>S 31 t none (some (.pv x)) fun a0=>L 31 z fun b0=>C0 29 [i0,b0,z,z,c,p,q,r,a0,u] (ms [c,p,q] (v1 fun c0=>mz [a0,u,z] (AQ 22 u (.rows [[z]]) fun d0=>O 1 [s,c,p,q,c0,a0,d0])))))))))))))))))))
def g25bb0a (a b c d e f g h i j k : PV) : T := L3 a b (X 31 c a (w1 fun l=>X 31 f l (w1 fun m=>E3 m i0 (D 43 [l,k,e,f,g,h,i,j] 0 1 (v1 fun n=>ms [e] (v3 fun o p q=>ms [j] (w1 fun r=>X 31 p d (w1 fun s=>X 31 p l (w1 fun t=>M true s t fun u=>SE p d 0 [u] fun v=>A3 a i1 fun w=>Y 33 [w,b,c,d,e,o,v,q,j,n,r]))))) (v1 fun n=>ms [e] (w5 fun o p q r s=>X 31 p d (w1 fun t=>X 31 p l (w1 fun u=>M true t u fun v=>SE p d 0 [v] fun w=>A3 a i1 fun x=>Y 34 [x,b,c,d,e,o,w,q,n,r,s]))))) (X 31 h l (w1 fun n=>L3 n i0 (X 31 g d (w1 fun o=>M true o m fun p=>SE g d 0 [p] fun q=>A3 a i1 fun r=>Y 31 [r,b,c,d,e,f,q,h,i,j,k])) (A3 a i1 fun o=>Y 31 [o,b,c,d,e,f,g,h,i,j,k])))))) (O0 [e,f,g,h,i,j,k,d])
def g25bb0b (a b c d e f g h i j k : PV) : T := L3 a b (X 31 c a (w1 fun l=>X 31 f l (w1 fun m=>E3 m i0 (D 43 [l,j,e,f,g,h,i,k] 0 1 (v1 fun n=>ms [e] (v3 fun o p q=>ms [k] (w1 fun r=>X 31 p d (w1 fun s=>X 31 p l (w1 fun t=>M true s t fun u=>SE p d 0 [u] fun v=>A3 a i1 fun w=>Y 34 [w,b,c,d,e,o,v,q,n,r,k]))))) (v1 fun n=>ms [e] (w5 fun o p q r s=>X 31 p d (w1 fun t=>X 31 p l (w1 fun u=>M true t u fun v=>SE p d 0 [v] fun w=>A3 a i1 fun x=>Y 34 [x,b,c,d,e,o,w,q,n,r,s]))))) (X 31 h l (w1 fun n=>L3 n i0 (X 31 g d (w1 fun o=>M true o m fun p=>SE g d 0 [p] fun q=>A3 a i1 fun r=>Y 32 [r,b,c,d,e,f,q,h,i,j,k])) (A3 a i1 fun o=>Y 32 [o,b,c,d,e,f,g,h,i,j,k])))))) (O 1 [e,f,g,h,i,j,k,d])
def g25bb0c (a b c d e f g h i j k : PV) : T := L3 a b (X 31 c a (w1 fun l=>X 31 f l (w1 fun m=>E3 m i0 (D 43 [l,j,e,f,g,h,k,i] 0 1 (v1 fun n=>ms [e] (v3 fun o p q=>ms [i] (w1 fun r=>X 31 p d (w1 fun s=>X 31 p l (w1 fun t=>M true s t fun u=>SE p d 0 [u] fun v=>A3 a i1 fun w=>Y 33 [w,b,c,d,e,o,v,q,i,n,r]))))) (v1 fun n=>ms [e] (w5 fun o p q r s=>X 31 p d (w1 fun t=>X 31 p l (w1 fun u=>M true t u fun v=>SE p d 0 [v] fun w=>A3 a i1 fun x=>Y 34 [x,b,c,d,e,o,w,q,n,r,s]))))) (X 31 h l (w1 fun n=>L3 n i0 (X 31 g d (w1 fun o=>M true o m fun p=>SE g d 0 [p] fun q=>A3 a i1 fun r=>Y 33 [r,b,c,d,e,f,q,h,i,j,k])) (A3 a i1 fun o=>Y 33 [o,b,c,d,e,f,g,h,i,j,k])))))) (O 2 [e,f,g,h,i,j,k,d])
def g25bb0d (a b c d e f g h i j k : PV) : T := L3 a b (X 31 c a (w1 fun l=>X 31 f l (w1 fun m=>E3 m i0 (D 43 [l,i,e,f,g,h,j,k] 0 1 (v1 fun n=>ms [e] (v3 fun o p q=>ms [k] (w1 fun r=>X 31 p d (w1 fun s=>X 31 p l (w1 fun t=>M true s t fun u=>SE p d 0 [u] fun v=>A3 a i1 fun w=>Y 34 [w,b,c,d,e,o,v,q,n,r,k]))))) (v1 fun n=>ms [e] (w5 fun o p q r s=>X 31 p d (w1 fun t=>X 31 p l (w1 fun u=>M true t u fun v=>SE p d 0 [v] fun w=>A3 a i1 fun x=>Y 34 [x,b,c,d,e,o,w,q,n,r,s]))))) (X 31 h l (w1 fun n=>L3 n i0 (X 31 g d (w1 fun o=>M true o m fun p=>SE g d 0 [p] fun q=>A3 a i1 fun r=>Y 34 [r,b,c,d,e,f,q,h,i,j,k])) (A3 a i1 fun o=>Y 34 [o,b,c,d,e,f,g,h,i,j,k])))))) (O 3 [e,f,g,h,i,j,k,d])
def g25bb3a (a b c d e f g h i j : PV) : T := L3 a b (X 31 c a (w1 fun k=>L 22 j fun l=>X 31 h k (w1 fun m=>SE h k 0 [l] fun n=>A3 a i1 fun o=>Y 29 [o,b,c,d,e,f,g,n,i,j]))) (O0 [e,f,g,h,i,j,d])
def g25c (a b c d e f g : PV) : T := A3 b i1 fun h=>X 31 d a (w1 fun i=>SE d a 0 [h] fun j=>X 31 e a (w1 fun k=>SE e a 0 [h] fun l=>AQ 31 g (.rows [[a]]) fun m=>X 22 c a (w1 fun n=>L 31 n fun o=>J (D 24 [i0,o,n,a,c,j,l,f,m,h] 0 1 (ms [c,nS] (v3 fun p q r=>ms [m] (v1 fun s=>mz [a] (X 31 q a (w1 fun t=>X 31 p a (w1 fun u=>L3 t u (O0 [s,c,nS,p,q,r,m]) (C0 55 [a,m] (ms [m] (w1 fun v=>S 31 m (some (.pv v)) none fun w=>C0 57 [v,w,m] (mz [m,v,w] (C0 91 [v,w,m] (ms [v,w,m] (w1 fun x=>S 31 m none (some (.pv v)) fun y=>L 31 x fun z=>C0 28 [i0,z,x,x,c,p,q,r,y] (ms [c,nS,p,q] (v1 fun a0=>mz [y,x] (AQ 22 nS (.rows [[x]]) fun b0=>O 1 [s,c,p,q,a0,y,b0])))))))))))))))) (ms [c] (v3 fun p q r=>ms [m] (v2 fun s t=>mz [a] (X 31 q a (w1 fun u=>X 31 p a (w1 fun v=>L3 u v (O 1 [s,c,p,q,r,m,t]) (C0 55 [a,m] (ms [m] (w1 fun w=>S 31 m (some (.pv w)) none fun x=>C0 57 [w,x,m] (mz [m,w,x] (C0 91 [w,x,m] (ms [w,x,m] (w1 fun y=>S 31 m none (some (.pv w)) fun z=>L 31 y fun a0=>C0 29 [i0,a0,y,y,c,p,q,r,z,t] (ms [c,p,q] (v1 fun b0=>mz [z,t,y] (AQ 22 t (.rows [[y]]) fun c0=>O 1 [s,c,p,q,b0,z,c0]))))))))))))))))) (D 24 [i0,o,n,a,c,j,l,f,m,h] 2 3 (ms [c,nS] (v5 fun p q r s t=>mz [a] (X 31 q a (w1 fun u=>X 31 p a (w1 fun v=>L3 u v (O0 [s,c,nS,p,q,r,t]) (C0 55 [a,t] (ms [t] (w1 fun w=>S 31 t (some (.pv w)) none fun x=>C0 57 [w,x,t] (mz [t,w,x] (C0 91 [w,x,t] (ms [w,x,t] (w1 fun y=>S 31 t none (some (.pv w)) fun z=>L 31 y fun a0=>C0 28 [i0,a0,y,y,c,p,q,r,z] (ms [c,nS,p,q] (v1 fun b0=>mz [z,y] (AQ 22 nS (.rows [[y]]) fun c0=>O 1 [s,c,p,q,b0,z,c0]))))))))))))))) (ms [c] (v6 fun p q r s t u=>mz [a] (X 31 q a (w1 fun v=>X 31 p a (w1 fun w=>L3 v w (O 1 [s,c,p,q,r,t,u]) (C0 55 [a,t] (ms [t] (w1 fun x=>S 31 t (some (.pv x)) none fun y=>C0 57 [x,y,t] (mz [t,x,y] (C0 91 [x,y,t] (ms [x,y,t] (w1 fun z=>S 31 t none (some (.pv x)) fun a0=>L 31 z fun b0=>C0 29 [i0,b0,z,z,c,p,q,r,a0,u] (ms [c,p,q] (v1 fun c0=>mz [a0,u,z] (AQ 22 u (.rows [[z]]) fun d0=>O 1 [s,c,p,q,c0,a0,d0])))))))))))))))))))
def g25cb0a (a b c d e f g h i j : PV) : T := L3 a b (X 31 c a (w1 fun k=>X 31 f k (w1 fun l=>E3 l i0 (D 36 [k,j,e,f,g,h,i] 0 1 (v1 fun m=>ms [e,nS] (w4 fun n o p q=>X 31 o d (w1 fun r=>X 31 o k (w1 fun s=>M true r s fun t=>SE o d 0 [t] fun u=>A3 a i1 fun v=>Y 26 [v,b,c,d,e,n,u,p,m,q])))) (v1 fun m=>ms [e] (w5 fun n o p q r=>X 31 o d (w1 fun s=>X 31 o k (w1 fun t=>M true s t fun u=>SE o d 0 [u] fun v=>A3 a i1 fun w=>Y 27 [w,b,c,d,e,n,v,p,m,q,r]))))) (X 31 h k (w1 fun m=>L3 m i0 (X 31 g d (w1 fun n=>M true n l fun o=>SE g d 0 [o] fun p=>A3 a i1 fun q=>Y 24 [q,b,c,d,e,f,p,h,i,j])) (A3 a i1 fun n=>Y 24 [n,b,c,d,e,f,g,h,i,j])))))) (O0 [e,nS,f,g,h,i,j,d])
def g25cb0b (a b c d e f g h i j k : PV) : T := L3 a b (X 31 c a (w1 fun l=>X 31 f l (w1 fun m=>E3 m i0 (D 43 [l,j,e,f,g,h,i,k] 0 1 (v1 fun n=>ms [e] (v3 fun o p q=>ms [k] (w1 fun r=>X 31 p d (w1 fun s=>X 31 p l (w1 fun t=>M true s t fun u=>SE p d 0 [u] fun v=>A3 a i1 fun w=>Y 27 [w,b,c,d,e,o,v,q,n,r,k]))))) (v1 fun n=>ms [e] (w5 fun o p q r s=>X 31 p d (w1 fun t=>X 31 p l (w1 fun u=>M true t u fun v=>SE p d 0 [v] fun w=>A3 a i1 fun x=>Y 27 [x,b,c,d,e,o,w,q,n,r,s]))))) (X 31 h l (w1 fun n=>L3 n i0 (X 31 g d (w1 fun o=>M true o m fun p=>SE g d 0 [p] fun q=>A3 a i1 fun r=>Y 25 [r,b,c,d,e,f,q,h,i,j,k])) (A3 a i1 fun o=>Y 25 [o,b,c,d,e,f,g,h,i,j,k])))))) (O 1 [e,f,g,h,i,j,k,d])
def g25cb0c (a b c d e f g h i j : PV) : T := L3 a b (X 31 c a (w1 fun k=>X 31 f k (w1 fun l=>E3 l i0 (D 36 [k,i,e,f,g,h,j] 0 1 (v1 fun m=>ms [e,nS] (w4 fun n o p q=>X 31 o d (w1 fun r=>X 31 o k (w1 fun s=>M true r s fun t=>SE o d 0 [t] fun u=>A3 a i1 fun v=>Y 26 [v,b,c,d,e,n,u,p,m,q])))) (v1 fun m=>ms [e] (w5 fun n o p q r=>X 31 o d (w1 fun s=>X 31 o k (w1 fun t=>M true s t fun u=>SE o d 0 [u] fun v=>A3 a i1 fun w=>Y 27 [w,b,c,d,e,n,v,p,m,q,r]))))) (X 31 h k (w1 fun m=>L3 m i0 (X 31 g d (w1 fun n=>M true n l fun o=>SE g d 0 [o] fun p=>A3 a i1 fun q=>Y 26 [q,b,c,d,e,f,p,h,i,j])) (A3 a i1 fun n=>Y 26 [n,b,c,d,e,f,g,h,i,j])))))) (O 2 [e,nS,f,g,h,i,j,d])
def g25cb0d (a b c d e f g h i j k : PV) : T := L3 a b (X 31 c a (w1 fun l=>X 31 f l (w1 fun m=>E3 m i0 (D 43 [l,i,e,f,g,h,j,k] 0 1 (v1 fun n=>ms [e] (v3 fun o p q=>ms [k] (w1 fun r=>X 31 p d (w1 fun s=>X 31 p l (w1 fun t=>M true s t fun u=>SE p d 0 [u] fun v=>A3 a i1 fun w=>Y 27 [w,b,c,d,e,o,v,q,n,r,k]))))) (v1 fun n=>ms [e] (w5 fun o p q r s=>X 31 p d (w1 fun t=>X 31 p l (w1 fun u=>M true t u fun v=>SE p d 0 [v] fun w=>A3 a i1 fun x=>Y 27 [x,b,c,d,e,o,w,q,n,r,s]))))) (X 31 h l (w1 fun n=>L3 n i0 (X 31 g d (w1 fun o=>M true o m fun p=>SE g d 0 [p] fun q=>A3 a i1 fun r=>Y 27 [r,b,c,d,e,f,q,h,i,j,k])) (A3 a i1 fun o=>Y 27 [o,b,c,d,e,f,g,h,i,j,k])))))) (O 3 [e,f,g,h,i,j,k,d])
def g25cb3a (a b c d e f g h i : PV) : T := L3 a b (X 31 c a (w1 fun j=>X 31 h j (w1 fun k=>SE h j 0 [i0] fun l=>A3 a i1 fun m=>Y 28 [m,b,c,d,e,f,g,l,i]))) (O0 [e,nS,f,g,h,i,d])
def g25cb3b (a b c d e f g h i j : PV) : T := L3 a b (X 31 c a (w1 fun k=>L 22 j fun l=>X 31 h k (w1 fun m=>SE h k 0 [l] fun n=>A3 a i1 fun o=>Y 29 [o,b,c,d,e,f,g,n,i,j]))) (O0 [e,f,g,h,i,j,d])
def g25d (a b c d e f g h : PV) : T := A3 b i1 fun i=>X 31 d a (w1 fun j=>SE d a 0 [i] fun k=>X 31 e a (w1 fun l=>SE e a 0 [i] fun m=>AQ 31 g (.rows [[a]]) fun n=>X 22 c a (w1 fun o=>L 31 o fun p=>J (D 31 [i0,p,o,a,c,k,m,f,n,h,i] 0 1 (ms [c] (v3 fun q r s=>ms [n,h] (v1 fun t=>mz [a] (X 31 r a (w1 fun u=>X 31 q a (w1 fun v=>L3 u v (O0 [t,c,q,r,s,h,n]) (C0 55 [a,n] (ms [n] (w1 fun w=>S 31 n (some (.pv w)) none fun x=>C0 57 [w,x,n] (mz [n,w,x] (C0 91 [w,x,n] (ms [w,x,n] (w1 fun y=>S 31 n none (some (.pv w)) fun z=>L 31 y fun a0=>C0 29 [i0,a0,y,y,c,q,r,s,z,h] (ms [c,q,r] (v1 fun b0=>mz [z,h,y] (AQ 22 h (.rows [[y]]) fun c0=>O 1 [t,c,q,r,b0,z,c0])))))))))))))))) (ms [c] (v3 fun q r s=>ms [n] (v2 fun t u=>mz [a] (X 31 r a (w1 fun v=>X 31 q a (w1 fun w=>L3 v w (O 1 [t,c,q,r,s,n,u]) (C0 55 [a,n] (ms [n] (w1 fun x=>S 31 n (some (.pv x)) none fun y=>C0 57 [x,y,n] (mz [n,x,y] (C0 91 [x,y,n] (ms [x,y,n] (w1 fun z=>S 31 n none (some (.pv x)) fun a0=>L 31 z fun b0=>C0 29 [i0,b0,z,z,c,q,r,s,a0,u] (ms [c,q,r] (v1 fun c0=>mz [a0,u,z] (AQ 22 u (.rows [[z]]) fun d0=>O 1 [t,c,q,r,c0,a0,d0]))))))))))))))))) (D 31 [i0,p,o,a,c,k,m,f,n,h,i] 2 3 (ms [c] (v3 fun q r s=>ms [h] (v2 fun t u=>mz [a] (X 31 r a (w1 fun v=>X 31 q a (w1 fun w=>L3 v w (O0 [t,c,q,r,s,h,u]) (C0 55 [a,u] (ms [u] (w1 fun x=>S 31 u (some (.pv x)) none fun y=>C0 57 [x,y,u] (mz [u,x,y] (C0 91 [x,y,u] (ms [x,y,u] (w1 fun z=>S 31 u none (some (.pv x)) fun a0=>L 31 z fun b0=>C0 29 [i0,b0,z,z,c,q,r,s,a0,h] (ms [c,q,r] (v1 fun c0=>mz [a0,h,z] (AQ 22 h (.rows [[z]]) fun d0=>O 1 [t,c,q,r,c0,a0,d0])))))))))))))))) (ms [c] (v6 fun q r s t u v=>mz [a] (X 31 r a (w1 fun w=>X 31 q a (w1 fun x=>L3 w x (O 1 [t,c,q,r,s,u,v]) (C0 55 [a,u] (ms [u] (w1 fun y=>S 31 u (some (.pv y)) none fun z=>C0 57 [y,z,u] (mz [u,y,z] (C0 91 [y,z,u] (ms [y,z,u] (w1 fun a0=>S 31 u none (some (.pv y)) fun b0=>L 31 a0 fun c0=>C0 29 [i0,c0,a0,a0,c,q,r,s,b0,v] (ms [c,q,r] (v1 fun d0=>mz [b0,v,a0] (AQ 22 v (.rows [[a0]]) fun f0=>O 1 [t,c,q,r,d0,b0,f0])))))))))))))))))))
def g25db0a (a b c d e f g h i j k : PV) : T := L3 a b (X 31 c a (w1 fun l=>X 31 f l (w1 fun m=>E3 m i0 (D 43 [l,k,e,f,g,h,i,j] 0 1 (v1 fun n=>ms [e] (v3 fun o p q=>ms [j] (w1 fun r=>X 31 p d (w1 fun s=>X 31 p l (w1 fun t=>M true s t fun u=>SE p d 0 [u] fun v=>A3 a i1 fun w=>Y 33 [w,b,c,d,e,o,v,q,j,n,r]))))) (v1 fun n=>ms [e] (w5 fun o p q r s=>X 31 p d (w1 fun t=>X 31 p l (w1 fun u=>M true t u fun v=>SE p d 0 [v] fun w=>A3 a i1 fun x=>Y 34 [x,b,c,d,e,o,w,q,n,r,s]))))) (X 31 h l (w1 fun n=>L3 n i0 (X 31 g d (w1 fun o=>M true o m fun p=>SE g d 0 [p] fun q=>A3 a i1 fun r=>Y 31 [r,b,c,d,e,f,q,h,i,j,k])) (A3 a i1 fun o=>Y 31 [o,b,c,d,e,f,g,h,i,j,k])))))) (O0 [e,f,g,h,i,j,k,d])
def g25db0b (a b c d e f g h i j k : PV) : T := L3 a b (X 31 c a (w1 fun l=>X 31 f l (w1 fun m=>E3 m i0 (D 43 [l,j,e,f,g,h,i,k] 0 1 (v1 fun n=>ms [e] (v3 fun o p q=>ms [k] (w1 fun r=>X 31 p d (w1 fun s=>X 31 p l (w1 fun t=>M true s t fun u=>SE p d 0 [u] fun v=>A3 a i1 fun w=>Y 34 [w,b,c,d,e,o,v,q,n,r,k]))))) (v1 fun n=>ms [e] (w5 fun o p q r s=>X 31 p d (w1 fun t=>X 31 p l (w1 fun u=>M true t u fun v=>SE p d 0 [v] fun w=>A3 a i1 fun x=>Y 34 [x,b,c,d,e,o,w,q,n,r,s]))))) (X 31 h l (w1 fun n=>L3 n i0 (X 31 g d (w1 fun o=>M true o m fun p=>SE g d 0 [p] fun q=>A3 a i1 fun r=>Y 32 [r,b,c,d,e,f,q,h,i,j,k])) (A3 a i1 fun o=>Y 32 [o,b,c,d,e,f,g,h,i,j,k])))))) (O 1 [e,f,g,h,i,j,k,d])
def g25db0c (a b c d e f g h i j k : PV) : T := L3 a b (X 31 c a (w1 fun l=>X 31 f l (w1 fun m=>E3 m i0 (D 43 [l,j,e,f,g,h,k,i] 0 1 (v1 fun n=>ms [e] (v3 fun o p q=>ms [i] (w1 fun r=>X 31 p d (w1 fun s=>X 31 p l (w1 fun t=>M true s t fun u=>SE p d 0 [u] fun v=>A3 a i1 fun w=>Y 33 [w,b,c,d,e,o,v,q,i,n,r]))))) (v1 fun n=>ms [e] (w5 fun o p q r s=>X 31 p d (w1 fun t=>X 31 p l (w1 fun u=>M true t u fun v=>SE p d 0 [v] fun w=>A3 a i1 fun x=>Y 34 [x,b,c,d,e,o,w,q,n,r,s]))))) (X 31 h l (w1 fun n=>L3 n i0 (X 31 g d (w1 fun o=>M true o m fun p=>SE g d 0 [p] fun q=>A3 a i1 fun r=>Y 33 [r,b,c,d,e,f,q,h,i,j,k])) (A3 a i1 fun o=>Y 33 [o,b,c,d,e,f,g,h,i,j,k])))))) (O 2 [e,f,g,h,i,j,k,d])
def g25db0d (a b c d e f g h i j k : PV) : T := L3 a b (X 31 c a (w1 fun l=>X 31 f l (w1 fun m=>E3 m i0 (D 43 [l,i,e,f,g,h,j,k] 0 1 (v1 fun n=>ms [e] (v3 fun o p q=>ms [k] (w1 fun r=>X 31 p d (w1 fun s=>X 31 p l (w1 fun t=>M true s t fun u=>SE p d 0 [u] fun v=>A3 a i1 fun w=>Y 34 [w,b,c,d,e,o,v,q,n,r,k]))))) (v1 fun n=>ms [e] (w5 fun o p q r s=>X 31 p d (w1 fun t=>X 31 p l (w1 fun u=>M true t u fun v=>SE p d 0 [v] fun w=>A3 a i1 fun x=>Y 34 [x,b,c,d,e,o,w,q,n,r,s]))))) (X 31 h l (w1 fun n=>L3 n i0 (X 31 g d (w1 fun o=>M true o m fun p=>SE g d 0 [p] fun q=>A3 a i1 fun r=>Y 34 [r,b,c,d,e,f,q,h,i,j,k])) (A3 a i1 fun o=>Y 34 [o,b,c,d,e,f,g,h,i,j,k])))))) (O 3 [e,f,g,h,i,j,k,d])
def g25db3a (a b c d e f g h i j : PV) : T := L3 a b (X 31 c a (w1 fun k=>L 22 j fun l=>X 31 h k (w1 fun m=>SE h k 0 [l] fun n=>A3 a i1 fun o=>Y 29 [o,b,c,d,e,f,g,n,i,j]))) (O0 [e,f,g,h,i,j,d])
def g29a (a b c d e f g : PV) : T := L 31 a fun h=>J (C 50 [i0,h,a,b,c,d,e,f,g] 1 (mz [b,nS,c,d,e,f,g] (O0 [b,nS,c,d,e,f,g,bt]))) (D 50 [i0,h,a,b,c,d,e,f,g] 0 0 (mz [b,nS,c,d,e,f,g,bt] (O0 [b,nS,c,d,e,f,g,bt])) (mz [b,nS,c,d,e,f,g,bf] (O0 [b,nS,c,d,e,f,g,bf])))
def g29ab0a (a b c d e f g h i : PV) : T := L3 a b (X 31 c a (w1 fun j=>X 22 d j (w1 fun k=>L 31 k fun l=>J (C 51 [i0,l,k,j,a,b,c,d,e,f,g,h,i] 1 (mz [d,nS,e,f,g,h,i,a,b,c] (A3 a i1 fun m=>Y 50 [m,b,c,d,e,f,g,h,i]))) (D 51 [i0,l,k,j,a,b,c,d,e,f,g,h,i] 0 0 (mz [d,nS,e,f,g,h,i,bt] (O0 [d,nS,e,f,g,h,i,bt])) (mz [d,nS,e,f,g,h,i,bf] (O0 [d,nS,e,f,g,h,i,bf])))))) (O 1 [d,nS,e,f,g,h,i])
def g29ab2a (a b c d e f g h i j k l m : PV) : T := L3 a b (X 31 c a (w1 fun n=>X 31 k n (w1 fun o=>X 31 k d (w1 fun p=>N3 o p (J (X 34 m o (mz [bt] (A3 a i1 fun q=>Y 51 [q,b,c,d,e,f,g,h,i,j,k,l,m]))) (X 34 m o (mz [bf] (O0 [h,nS,i,j,k,l,m,bf])))) (A3 a i1 fun q=>Y 51 [q,b,c,d,e,f,g,h,i,j,k,l,m]))))) (O 1 [h,nS,i,j,k,l,m,e,f,g])
def g29b (a b c d e f g h : PV) : T := L 31 a fun i=>J (C 53 [i0,i,a,b,c,d,e,f,g,h] 1 (mz [b,c,d,e,f,g,h] (O0 [b,c,d,e,f,g,h,bt]))) (D 53 [i0,i,a,b,c,d,e,f,g,h] 0 0 (mz [b,c,d,e,f,g,h,bt] (O0 [b,c,d,e,f,g,h,bt])) (mz [b,c,d,e,f,g,h,bf] (O0 [b,c,d,e,f,g,h,bf])))
def g29bb0a (a b c d e f g h i j : PV) : T := L3 a b (X 31 c a (w1 fun k=>X 22 d k (w1 fun l=>L 31 l fun m=>J (C 54 [i0,m,l,k,a,b,c,d,e,f,g,h,i,j] 1 (mz [d,e,f,g,h,i,j,a,b,c] (A3 a i1 fun n=>Y 53 [n,b,c,d,e,f,g,h,i,j]))) (D 54 [i0,m,l,k,a,b,c,d,e,f,g,h,i,j] 0 0 (mz [d,e,f,g,h,i,j,bt] (O0 [d,e,f,g,h,i,j,bt])) (mz [d,e,f,g,h,i,j,bf] (O0 [d,e,f,g,h,i,j,bf])))))) (O 1 [d,e,f,g,h,i,j])
def g29bb2a (a b c d e f g h i j k l m n : PV) : T := L3 a b (X 31 c a (w1 fun o=>X 31 k o (w1 fun p=>X 31 k d (w1 fun q=>N3 p q (J (X 34 n p (mz [bt] (A3 a i1 fun r=>Y 54 [r,b,c,d,e,f,g,h,i,j,k,l,m,n]))) (X 34 n p (mz [bf] (O0 [h,i,j,k,l,m,n,bf])))) (A3 a i1 fun r=>Y 54 [r,b,c,d,e,f,g,h,i,j,k,l,m,n]))))) (O 1 [h,i,j,k,l,m,n,e,f,g])
def g26a (a b : PV) : T := L 31 b fun c=>D 56 [i0,c,a,b] 1 0 (mz [b] (O0 [b,(iv (-1))])) (ms [b] (w1 fun d=>O0 [b,d]))
def g26ab0a (a b c d : PV) : T := L3 a b (X 31 d a (w1 fun e=>E3 c e (O0 [d,a]) (A3 a i1 fun f=>Y 56 [f,b,c,d]))) (O 1 [d])
def g28a (a b c : PV) : T := O0 [c,a,b]
def g8 (a : PV) : T := L 22 a fun b=>J (C 59 [i0,b,a,a] 1 (mz [a] (K3 b (iv 40) (O0 [bt]) (O0 [bf])))) (Q0 59 [i0,b,a,a] (O0 [bt]) (O0 [bf]))
def g8b0a (a b c d : PV) : T := L3 a b (X 22 c a (w1 fun e=>L 31 e fun f=>G3 f (iv 100) (O0 [bf]) (A3 a i1 fun g=>Y 59 [g,b,c,d]))) (O 1 [d])
def g10 (a : PV) : T := J (C 61 [i0,a] 1 (mz [a] (C0 90 [a] (w1 fun b=>L 22 a fun c=>MK 34 c fun d=>D 63 [i0,a,b,d] 0 1 (v1 fun e=>mz [nS] (O0 [nS,bt])) (w2 fun e f=>O 1 [f,bt]))))) (D 61 [i0,a] 0 0 (v1 fun b=>mz [bt] (O0 [b,bt])) (v1 fun b=>mz [bf] (O0 [b,bf])))
def g10b0a (a b : PV) : T := L 22 b fun c=>L3 a c (J (C 62 [i0,b,a] 1 (mz [a,b] (A3 a i1 fun d=>Y 61 [d,b]))) (D 62 [i0,b,a] 0 0 (v1 fun d=>mz [bt] (O0 [d,bt])) (v1 fun d=>mz [bf] (O0 [d,bf])))) (O 1 [b])
def g10b2a (a b c : PV) : T := X 22 b c (w1 fun d=>L 31 d fun e=>L3 a e (X 31 d a (w1 fun f=>L3 f i0 (O0 [nS,bf]) (L 22 b fun g=>H3 f g (O0 [nS,bf]) (A3 a i1 fun h=>Y 62 [h,b,c])))) (O 1 [c,b]))
def g10b4a (a b c d : PV) : T := L 22 b fun e=>L3 a e (C0 65 [i0,b,(iv (-1)),c,a,d] (ms [d] (v1 fun f=>mz [b,c,nS,a] (H3 f i0 (D 71 [i0,b,c,f,a,d] 0 1 (v1 fun g=>mz [nS,nS,a,b,c] (A3 a i1 fun h=>Y 64 [h,b,c,(.rows [[nS]]),g])) (v1 fun g=>ms [nS] (v1 fun h=>mz [a,b,c] (A3 a i1 fun i=>Y 64 [i,b,c,(.rows [[h]]),g])))) (A3 a i1 fun g=>Y 63 [g,b,c,d]))))) (O0 [d,nS])
def g10b4b (a b c d e : PV) : T := L 22 b fun f=>L3 a f (C0 66 [i0,b,(iv (-1)),c,d,a,e] (ms [e] (v1 fun g=>mz [b,c,d,a] (H3 g i0 (D 72 [i0,b,c,g,d,a,e] 0 1 (v1 fun h=>mz [d,nS,a,b,c] (P 22 d (.rows [[nS]]) fun i=>A3 a i1 fun j=>Y 64 [j,b,c,i,h])) (v1 fun h=>ms [d] (v1 fun i=>mz [a,b,c] (P 22 d (.rows [[i]]) fun j=>A3 a i1 fun k=>Y 64 [k,b,c,j,h])))) (A3 a i1 fun h=>Y 64 [h,b,c,d,e]))))) (O 1 [e,d])
def g10b6a (a b c d e f : PV) : T := L 22 b fun g=>L3 a g (L3 c i0 (J (X 34 f a (mz [bt] (D 67 [i0,b,d,a,e,c,f] 0 0 (mz [f,bt,a,b,d,nS,e,c] (A3 a i1 fun h=>Y 65 [h,b,a,d,e,f])) (mz [f,bf,a,b,d,nS,e,c] (A3 a i1 fun h=>Y 65 [h,b,c,d,e,f]))))) (X 34 f a (mz [bf] (D 68 [i0,b,d,a,e,c,f] 0 0 (mz [f,bt,a,b,d,nS,e,c] (A3 a i1 fun h=>Y 65 [h,b,a,d,e,f])) (mz [f,bf,a,b,d,nS,e,c] (A3 a i1 fun h=>Y 65 [h,b,c,d,e,f])))))) (O0 [f,c,b,d,nS,e])) (O0 [f,c,b,d,nS,e])
def g10b6b (a b c d e f g : PV) : T := L 22 b fun h=>L3 a h (L3 c i0 (J (X 34 g a (mz [bt] (D 69 [i0,b,d,a,e,f,c,g] 0 0 (mz [g,bt,a,b,d,e,f,c] (A3 a i1 fun i=>Y 66 [i,b,a,d,e,f,g])) (mz [g,bf,a,b,d,e,f,c] (A3 a i1 fun i=>Y 66 [i,b,c,d,e,f,g]))))) (X 34 g a (mz [bf] (D 70 [i0,b,d,a,e,f,c,g] 0 0 (mz [g,bt,a,b,d,e,f,c] (A3 a i1 fun i=>Y 66 [i,b,a,d,e,f,g])) (mz [g,bf,a,b,d,e,f,c] (A3 a i1 fun i=>Y 66 [i,b,c,d,e,f,g])))))) (O0 [g,c,b,d,e,f])) (O0 [g,c,b,d,e,f])
def g10b8a (a b c d e f g : PV) : T := L 22 b fun h=>L3 a h (O0 [g,bf,d,b,c,nS,e,f]) (O0 [g,bf,d,b,c,nS,e,f])
def g10b8b (a b c d e f g : PV) : T := L 22 b fun h=>L3 a h (X 32 c d (w1 fun i=>J (X 34 i a (mz [bt] (J (X 34 g a (mz [bt] (A3 a i1 fun j=>Y 68 [j,b,c,d,e,f,g]))) (X 34 g a (mz [bf] (Q0 78 [c,d,a] (A3 a i1 fun j=>Y 68 [j,b,c,d,e,f,g]) (A3 a i1 fun j=>Y 67 [j,b,c,d,e,f,g]))))))) (X 34 i a (mz [bf] (A3 a i1 fun j=>Y 68 [j,b,c,d,e,f,g]))))) (O0 [g,bt,d,b,c,nS,e,f])
def g10b8c (a b c d e f g h : PV) : T := L 22 b fun i=>L3 a i (O0 [h,bf,d,b,c,e,f,g]) (O0 [h,bf,d,b,c,e,f,g])
def g10b8d (a b c d e f g h : PV) : T := L 22 b fun i=>L3 a i (X 32 c d (w1 fun j=>J (X 34 j a (mz [bt] (J (X 34 h a (mz [bt] (A3 a i1 fun k=>Y 70 [k,b,c,d,e,f,g,h]))) (X 34 h a (mz [bf] (Q0 78 [c,d,a] (A3 a i1 fun k=>Y 70 [k,b,c,d,e,f,g,h]) (A3 a i1 fun k=>Y 69 [k,b,c,d,e,f,g,h]))))))) (X 34 j a (mz [bf] (A3 a i1 fun k=>Y 70 [k,b,c,d,e,f,g,h]))))) (O0 [h,bt,d,b,c,e,f,g])
def g10b10a (a b c d e f : PV) : T := L 22 b fun g=>L3 a g (Q0 78 [c,d,a] (J (X 34 f a (mz [bt] (SE f a 0 [bt] fun h=>A3 a i1 fun i=>Y 73 [i,b,c,d,(.rows [[a]]),e,h]))) (X 34 f a (mz [bf] (SE f a 0 [bt] fun h=>A3 a i1 fun i=>Y 73 [i,b,c,d,(.rows [[a]]),e,h])))) (A3 a i1 fun h=>Y 71 [h,b,c,d,e,f])) (O0 [f,nS,nS,e,b,c])
def g10b10b (a b c d e f g : PV) : T := L 22 b fun h=>L3 a h (Q0 78 [c,d,a] (J (X 34 g a (mz [bt] (SE g a 0 [bt] fun i=>A3 a i1 fun j=>Y 74 [j,b,c,d,(.rows [[a]]),e,f,i]))) (X 34 g a (mz [bf] (SE g a 0 [bt] fun i=>A3 a i1 fun j=>Y 74 [j,b,c,d,(.rows [[a]]),e,f,i])))) (A3 a i1 fun i=>Y 72 [i,b,c,d,e,f,g])) (O0 [g,e,nS,f,b,c])
def g10b10c (a b c d e f g : PV) : T := L 22 b fun h=>L3 a h (Q0 78 [c,d,a] (P 31 e (.rows [[a]]) fun i=>J (X 34 g a (mz [bt] (SE g a 0 [bt] fun j=>A3 a i1 fun k=>Y 73 [k,b,c,d,i,f,j]))) (X 34 g a (mz [bf] (SE g a 0 [bt] fun j=>A3 a i1 fun k=>Y 73 [k,b,c,d,i,f,j])))) (A3 a i1 fun i=>Y 73 [i,b,c,d,e,f,g])) (O 1 [g,nS,e,f,b,c])
def g10b10d (a b c d e f g h : PV) : T := L 22 b fun i=>L3 a i (Q0 78 [c,d,a] (P 31 e (.rows [[a]]) fun j=>J (X 34 h a (mz [bt] (SE h a 0 [bt] fun k=>A3 a i1 fun l=>Y 74 [l,b,c,d,j,f,g,k]))) (X 34 h a (mz [bf] (SE h a 0 [bt] fun k=>A3 a i1 fun l=>Y 74 [l,b,c,d,j,f,g,k])))) (A3 a i1 fun j=>Y 74 [j,b,c,d,e,f,g,h])) (O 1 [h,f,e,g,b,c])
def g11 (a b : PV) : T := L 22 a fun c=>L 22 b fun d=>N3 c d (O0 [bf]) (J (C 76 [i0,a,b] 1 (z (O0 [bt]))) (Q0 76 [i0,a,b] (O0 [bt]) (O0 [bf])))
def g11b0a (a b c : PV) : T := L 22 b fun d=>L3 a d (X 22 b a (w1 fun e=>L 31 e fun f=>X 22 c a (w1 fun g=>L 31 g fun h=>N3 f h (O0 [bf]) (J (C 77 [i0,b,a,c] 1 (mz [a,b,c] (A3 a i1 fun i=>Y 76 [i,b,c]))) (Q0 77 [i0,b,a,c] (O0 [bt]) (O0 [bf])))))) (O 1 [])
def g11b2a (a b c d : PV) : T := X 22 b c (w1 fun e=>L 31 e fun f=>L3 a f (X 31 e a (w1 fun g=>X 22 d c (w1 fun h=>X 31 h a (w1 fun i=>N3 g i (O0 [bf]) (A3 a i1 fun j=>Y 77 [j,b,c,d]))))) (O 1 [c,b,d]))
def g19 (a b c : PV) : T := E3 b c (O0 [bt]) (X 32 a b (w1 fun d=>J (X 34 d c (mz [bt] (X 32 a c (w1 fun e=>J (X 34 e b (mz [bt] (O0 [bt]))) (X 34 e b (mz [bf] (O0 [bf]))))))) (X 34 d c (mz [bf] (O0 [bf])))))
def g4 (a : PV) : T := Q0 89 [] (Q0 58 [a] (C0 0 [a] (w2 fun b c=>TW .neq 25 c i0 (L 22 b fun d=>E3 d i0 (O0 [bt]) (O0 [bf])) (L 22 a fun d=>MK 31 d fun e=>L 31 e fun f=>C0 80 [i0,f,b,a,e] (v1 fun g=>mz [b,a] (L 22 b fun h=>J (C 81 [i0,h,b,a,g] 1 (v1 fun i=>mz [a] (C0 90 [a] (w1 fun j=>L 31 i fun k=>J (C 83 [i0,k,a,j,i] 1 (mz [i] (O0 [bt]))) (D 83 [i0,k,a,j,i] 0 0 (mz [i,bt] (O0 [bt])) (mz [i,bf] (O0 [bf]))))))) (D 81 [i0,h,b,a,g] 0 0 (v1 fun i=>mz [bt] (O0 [bt])) (v1 fun i=>mz [bf] (O0 [bf])))))))) (O0 [bt])) (O0 [bf])
def g4b0a (a b c d e : PV) : T := L3 a b (X 31 e a (w1 fun f=>SE e a 0 [(iv (-1))] fun g=>A3 a i1 fun h=>Y 80 [h,b,c,d,g])) (O0 [e,c,d])
def g4b2a (a b c d e : PV) : T := L3 a b (X 22 c a (w1 fun f=>L 31 f fun g=>J (C 82 [i0,g,f,a,a,b,c,d,e] 1 (v1 fun h=>mz [a,b,c,d] (A3 a i1 fun i=>Y 81 [i,b,c,d,h]))) (D 82 [i0,g,f,a,a,b,c,d,e] 0 0 (v1 fun h=>mz [bt] (O0 [h,bt])) (v1 fun h=>mz [bf] (O0 [h,bf]))))) (O 1 [e,d])
def g4b4a (a b c d e f g h i : PV) : T := L3 a b (X 31 c a (w1 fun j=>L3 j i0 (O0 [i,bf]) (L 31 i fun k=>H3 j k (O0 [i,bf]) (X 31 i j (w1 fun l=>H3 l i0 (O0 [i,bf]) (SE i j 0 [d] fun m=>A3 a i1 fun n=>Y 82 [n,b,c,d,e,f,g,h,m])))))) (O 1 [i,e,f,g,h])
def g4b6a (a b c d e : PV) : T := L3 a b (X 31 e a (w1 fun f=>L3 f i0 (O0 [e,bf]) (X 22 c a (w1 fun g=>L 31 g fun h=>J (C 84 [i0,h,g,a,d,a,b,c,e] 1 (mz [e,a,d,a,b,c] (L 31 e fun i=>J (C 85 [i0,i,a,d,a,b,c,e] 1 (mz [e,a,b,c,d] (A3 a i1 fun j=>Y 83 [j,b,c,d,e]))) (D 85 [i0,i,a,d,a,b,c,e] 0 0 (mz [e,bt] (O0 [e,bt])) (mz [e,bf] (O0 [e,bf])))))) (D 84 [i0,h,g,a,d,a,b,c,e] 0 0 (mz [e,bt] (O0 [e,bt])) (mz [e,bf] (O0 [e,bf]))))))) (O 1 [e])
def g4b8a (a b c d e f g h i : PV) : T := L3 a b (X 31 c a (w1 fun j=>X 31 i j (w1 fun k=>X 31 i d (w1 fun l=>G3 k l (O0 [i,bf]) (A3 a i1 fun m=>Y 84 [m,b,c,d,e,f,g,h,i]))))) (O 1 [i,d,e,f,g,h])
def g4b10a (a b c d e f g h : PV) : T := L3 a b (X 31 h a (w1 fun i=>X 31 h c (w1 fun j=>E3 i j (N3 a c (X 32 d c (w1 fun k=>J (X 34 k a (mz [bt] (A3 a i1 fun l=>Y 85 [l,b,c,d,e,f,g,h]))) (X 34 k a (mz [bf] (O0 [h,bf]))))) (A3 a i1 fun k=>Y 85 [k,b,c,d,e,f,g,h])) (A3 a i1 fun k=>Y 85 [k,b,c,d,e,f,g,h])))) (O 1 [h,e,f,g,d])
def g3 (a : PV) : T := Q0 89 [] (Q0 58 [a] (C0 0 [a] (w2 fun b c=>D 92 [a] 0 0 (v1 fun d=>mz [bt] (TW .eql 25 c i0 (TW .eql 25 c i2 (O0 [bf]) (Q0 75 [b,d] (O0 [bt]) (O0 [bf]))) (O0 [bf]))) (v1 fun d=>mz [bf] (TW .eql 25 c i0 (O0 [bf]) (TW .eql 25 c i2 (Q0 75 [b,d] (O0 [bt]) (O0 [bf])) (O0 [bf])))))) (O0 [bt])) (O0 [bf])
def g5 (a b : PV) : T := Q0 89 [] (Q0 58 [a] (L 31 b fun c=>G3 c (iv 100) (O0 [bt]) (L 22 a fun d=>J (C 88 [i0,c,b,d,a,b] 1 (mz [a,b,d] (C0 0 [a] (w2 fun e f=>J (P 22 (.rows []) a fun g=>P 22 g (.rows [[b]]) fun h=>C0 0 [h] (w2 fun i j=>TW .neq 25 f i0 (L 22 e fun k=>E3 k i0 (O0 [bt]) (O0 [bf])) (TW .neq 25 j i0 (O0 [bf]) (L 22 i fun k=>E3 k i0 (O0 [bf]) (S3 k i1 fun l=>X 22 i l (w1 fun m=>L 31 m fun n=>E3 n i1 (X 31 m i0 (w1 fun o=>E3 o d (S 22 i none (some (.pv l)) fun p=>Q0 75 [e,p] (O0 [bt]) (O0 [bf])) (O0 [bf]))) (O0 [bf]))))))) (P0 22 (.rows []) a (C0 0 [(.rows [[b]])] (w2 fun g h=>TW .neq 25 f i0 (L 22 e fun i=>E3 i i0 (O0 [bt]) (O0 [bf])) (TW .neq 25 h i0 (O0 [bf]) (L 22 g fun i=>E3 i i0 (O0 [bf]) (S3 i i1 fun j=>X 22 g j (w1 fun k=>L 31 k fun l=>E3 l i1 (X 31 k i0 (w1 fun m=>E3 m d (S 22 g none (some (.pv j)) fun n=>Q0 75 [e,n] (O0 [bt]) (O0 [bf])) (O0 [bf]))) (O0 [bf])))))))))))) (Q0 88 [i0,c,b,d,a,b] (O0 [bt]) (O0 [bf])))) (O0 [bt])) (O0 [bf])
def g5b0a (a b c d e f : PV) : T := L3 a b (X 31 c a (w1 fun g=>L3 g i0 (O0 [bt]) (G3 g d (O0 [bt]) (A3 a i1 fun h=>Y 88 [h,b,c,d,e,f])))) (O 1 [e,f,d])
end
def k0 (g : Rf) : Et := g  0
def k1 (g : PV → Rf) : Et := g (.sym 0) 1
def k2 (g : PV → PV → Rf) : Et := g (.sym 0) (.sym 1) 2
def k3 (g : PV → PV → PV → Rf) : Et := g (.sym 0) (.sym 1) (.sym 2) 3
def k4 (g : PV → PV → PV → PV → Rf) : Et := g (.sym 0) (.sym 1) (.sym 2) (.sym 3) 4
def k5 (g : PV → PV → PV → PV → PV → Rf) : Et := g (.sym 0) (.sym 1) (.sym 2) (.sym 3) (.sym 4) 5
def k6 (g : PV → PV → PV → PV → PV → PV → Rf) : Et := g (.sym 0) (.sym 1) (.sym 2) (.sym 3) (.sym 4) (.sym 5) 6
def k7 (g : PV → PV → PV → PV → PV → PV → PV → Rf) : Et := g (.sym 0) (.sym 1) (.sym 2) (.sym 3) (.sym 4) (.sym 5) (.sym 6) 7
def k8 (g : PV → PV → PV → PV → PV → PV → PV → PV → Rf) : Et := g (.sym 0) (.sym 1) (.sym 2) (.sym 3) (.sym 4) (.sym 5) (.sym 6) (.sym 7) 8
def k9 (g : PV → PV → PV → PV → PV → PV → PV → PV → PV → Rf) : Et := g (.sym 0) (.sym 1) (.sym 2) (.sym 3) (.sym 4) (.sym 5) (.sym 6) (.sym 7) (.sym 8) 9
def k10 (g : PV → PV → PV → PV → PV → PV → PV → PV → PV → PV → Rf) : Et := g (.sym 0) (.sym 1) (.sym 2) (.sym 3) (.sym 4) (.sym 5) (.sym 6) (.sym 7) (.sym 8) (.sym 9) 10
def k11 (g : PV → PV → PV → PV → PV → PV → PV → PV → PV → PV → PV → Rf) : Et := g (.sym 0) (.sym 1) (.sym 2) (.sym 3) (.sym 4) (.sym 5) (.sym 6) (.sym 7) (.sym 8) (.sym 9) (.sym 10) 11
def k13 (g : PV → PV → PV → PV → PV → PV → PV → PV → PV → PV → PV → PV → PV → Rf) : Et := g (.sym 0) (.sym 1) (.sym 2) (.sym 3) (.sym 4) (.sym 5) (.sym 6) (.sym 7) (.sym 8) (.sym 9) (.sym 10) (.sym 11) (.sym 12) 13
def k14 (g : PV → PV → PV → PV → PV → PV → PV → PV → PV → PV → PV → PV → PV → PV → Rf) : Et := g (.sym 0) (.sym 1) (.sym 2) (.sym 3) (.sym 4) (.sym 5) (.sym 6) (.sym 7) (.sym 8) (.sym 9) (.sym 10) (.sym 11) (.sym 12) (.sym 13) 14
def pR : Nat → Nat → List PV
  | _, 0 => []
  | a, n + 1 => .sym a :: pR (a + 1) n
def wR : Nat → Nat → List AV
  | _, 0 => []
  | a, n + 1 => .pv (.sym a) :: wR (a + 1) n
def nA : AV := .pv nS
def eA : AV := .pv e0
def zA : AV := .pv i0
def tA : AV := .pv bt
def fA : AV := .pv bf
def rA (n : Nat) : AV := .ptr n 0
def nR : Nat → List AV
  | 0 => []
  | n + 1 => nA :: nR n
def tk (t s n : Nat) : AObj := .tok t s (symBase + n)
def eF (f : Nat) (a : List AV) (h : List AObj) (n m : Nat) : Ent := { f := f, args := a, h := h, n := n, fam := m }
def eL (a b f : Nat) (e : Env) (h : List AObj) (n m : Nat) : Ent := { lp := some (a, b), f := f, e := e, h := h, n := n, fam := m }
def rn (r : List Nat) (e : Ent) : Ent := { e with rin := r }
def wkE (e : Ent) (m b : Nat) : Ent := { e with fam := m, base := some b }
def wkM (e : Ent) (m b : Nat) (wm : List Nat) : Ent := { e with fam := m, base := some b, wm := wm }
def yU (v : AV) (m : Nat) : Shape := { v := v, m := m }
def yV (v : AV) (h : List AObj) (m : Nat) : Shape := { v := v, h := h, m := m }
def yW (v : AV) (h : List AObj) (m : Nat) (r : List Nat) : Shape := { v := v, h := h, m := m, rw := r }
def yE (x : AExit) (e : Env) (h : List AObj) (m : Nat) : Shape := { ex := x, e := e, h := h, m := m }
def yR (x : AExit) (e : Env) (h : List AObj) (m : Nat) (r : List Nat) : Shape := { ex := x, e := e, h := h, m := m, rw := r }
def o0 : AV := .pv (.sym 0)
def o1 : AV := .pv (.sym 1)
def o2 : AV := .pv (.sym 2)
def o3 : AV := .pv (.sym 3)
def o4 : AV := .pv (.sym 4)
def o5 : AV := .pv (.sym 5)
def o6 : AV := .pv (.sym 6)
def o7 : AV := .pv (.sym 7)
def o8 : AV := .pv (.sym 8)
def o9 : AV := .pv (.sym 9)
def o10 : AV := .pv (.sym 10)
def y0 : List AObj := [.box 51 [o0,(.arr 1),(.arr 2),(.arr 3),(.arr 4),(.arr 5)], .arr 3 1 (.sym 1), .arr 3 1 (.sym 2), .arr 3 1 (.sym 3), .arr 3 1 (.sym 4), .arr 31 1 (.sym 5), .arr 4 1 (.sym 6)]
def y1 : List AObj := [.box 51 [o0,(.arr 1),(.arr 2),(.arr 3),o1,(.arr 4)], .arr 3 1 (.sym 2), .arr 3 1 (.sym 3), .arr 3 1 (.sym 4), .arr 31 1 (.sym 5), .arr 4 1 (.sym 6)]
def y2 : List AObj := [.box 51 [o0,(.arr 1),(.arr 2),(.arr 3),(.arr 4),(.arr 5)], .arr 3 1 (.sym 1), .arr 3 1 (.sym 2), .arr 3 1 (.sym 3), .arr 3 1 (.sym 4), .arr 31 1 (.sym 5), .arr 4 1 (.sym 6), .arr 31 1 (.sym 7)]
def y3 : List AObj := [.box 49 [(rA 1)], .box 51 [o4,(.arr 2),(.arr 3),(.arr 4),(.arr 5),(.arr 6)], .arr 3 1 (.sym 5), .arr 3 1 (.sym 6), .arr 3 1 (.sym 7), .arr 3 1 (.sym 8), .arr 31 1 (.sym 9)]
def y4 : List AV := [(.fn 25 [(.ptr 7 0),(.ptr 0 0),(.ptr 6 0)])]
def y5 : List AV := [(.fn 25 [(.ptr 8 0),(.ptr 0 0),(.ptr 7 0)])]
def y6 : Env := [(45,o0),(44,o1),(43,o2),(2,(rA 0)),(3,(rA 6)),(0,o3)]
def y7 : Env := [(45,o0),(44,o1),(43,o2),(2,(rA 0)),(3,(rA 7)),(0,o3)]
def y8 : List AObj := [.box 51 [o0,(.arr 1),(.arr 2),(.arr 3),o1,(.arr 4)], .arr 3 1 (.sym 2), .arr 3 1 (.sym 3), .arr 3 1 (.sym 4), .arr 31 1 (.sym 5), .arr 4 1 (.sym 6), .arr 31 1 (.sym 7)]
def y9 : List AObj := [.box 51 [o0,(.arr 1),(.arr 2),(.arr 3),(.arr 4),(.arr 5)], .arr 3 1 (.sym 1), .arr 3 1 (.sym 2), .arr 3 1 (.sym 3), .arr 3 1 (.sym 4), .arr 31 1 (.sym 5)]
def y10 : List AV := [(.fn 25 [(.ptr 6 0),(.ptr 0 0),(.ptr 5 0)])]
def y11 : Env := [(153,o0),(152,o1),(151,o2),(2,(rA 0)),(8,o3)]
def y12 : List AObj := [.box 49 [(rA 1)], .box 51 [o4,(.arr 2),(.arr 3),(.arr 4),(.arr 9),(.arr 10)], .arr 3 1 (.sym 5), .arr 3 1 (.sym 6), .arr 3 1 (.sym 7), .dead, .dead, .box 59 y5, .box 3 [o8], .arr 3 1 (.sym 9), .arr 31 1 (.sym 10)]
def y13 : List AV := [(.fn 25 [(.ptr 0 0),(.ptr 1 0),(.ptr 7 0)])]
def y14 : List AObj := [.box 49 [(rA 1)], .box 51 [o4,(.arr 2),(.arr 3),(.arr 4),(.arr 8),(.arr 9)], .arr 3 1 (.sym 5), .arr 3 1 (.sym 6), .arr 3 1 (.sym 7), .dead, .box 59 y4, .box 3 [o8], .arr 3 1 (.sym 9), .arr 31 1 (.sym 10)]
def y15 : List AObj := [.box 49 [(rA 1)], .box 51 [o4,(.arr 2),(.arr 3),(.arr 4),(.arr 5),(.arr 9)], .arr 3 1 (.sym 5), .arr 3 1 (.sym 6), .arr 3 1 (.sym 7), .arr 3 1 (.sym 8), .dead, .box 59 y5, .box 3 [o9], .arr 31 1 (.sym 10)]
def y16 : List AObj := [.box 49 [(rA 1)], .box 51 [o4,(.arr 2),(.arr 3),(.arr 4),(.arr 9),(.arr 6)], .arr 3 1 (.sym 5), .arr 3 1 (.sym 6), .arr 3 1 (.sym 7), .dead, .arr 31 1 (.sym 8), .box 59 y5, .box 3 [o9], .arr 3 1 (.sym 10)]
def y17 : List AObj := [.box 3 [o0], .box 49 [(rA 2)], .box 51 [o1,(.arr 3),(.arr 4),(.arr 5),(.arr 8),(.arr 9)], .arr 3 1 (.sym 2), .arr 3 1 (.sym 3), .arr 3 1 (.sym 4), .dead, .box 59 y13, .arr 3 1 (.sym 5), .arr 31 1 (.sym 6)]
def y18 : List AObj := [.box 51 [o0,(.arr 1),(.arr 2),(.arr 3),o1,o2], .arr 3 1 (.sym 3), .arr 3 1 (.sym 4), .arr 3 1 (.sym 5)]
def y19 : List AObj := [.box 49 [(rA 1)], .box 51 [o4,(.arr 2),(.arr 3),(.arr 4),(.arr 5),(.arr 8)], .arr 3 1 (.sym 5), .arr 3 1 (.sym 6), .arr 3 1 (.sym 7), .arr 3 1 (.sym 8), .box 59 y4, .box 3 [o9], .arr 31 1 (.sym 10)]
def y20 : List AObj := [.box 49 [(rA 1)], .box 51 [o4,(.arr 2),(.arr 3),(.arr 4),(.arr 5),(.arr 6)], .arr 3 1 (.sym 5), .arr 3 1 (.sym 6), .arr 3 1 (.sym 7), .arr 3 1 (.sym 8), .arr 31 1 (.sym 9), .box 59 y5, .box 3 [o10]]
def y21 : List AObj := [.box 49 [(rA 1)], .box 51 [o4,(.arr 2),(.arr 3),(.arr 4),(.arr 8),nA], .arr 3 1 (.sym 5), .arr 3 1 (.sym 6), .arr 3 1 (.sym 7), .dead, .box 59 y4, .box 3 [o8], .arr 3 1 (.sym 9)]
def y22 : List AObj := [.box 49 [(rA 1)], .box 51 [o4,(.arr 2),(.arr 3),(.arr 4),(.arr 5),nA], .arr 3 1 (.sym 5), .arr 3 1 (.sym 6), .arr 3 1 (.sym 7), .arr 3 1 (.sym 8), .box 59 y4, .box 3 [o9]]
def y23 : List AObj := [.box 49 [(rA 1)], .box 51 [o4,(.arr 2),(.arr 3),(.arr 4),(.arr 5),nA], .arr 3 1 (.sym 5), .arr 3 1 (.sym 6), .arr 3 1 (.sym 7), .arr 3 1 (.sym 8)]
def y24 : List AObj := [.box 51 [o0,(.arr 1),(.arr 2),(.arr 3),o1,(.arr 4)], .arr 3 1 (.sym 2), .arr 3 1 (.sym 3), .arr 3 1 (.sym 4), .arr 31 1 (.sym 5)]
def y25 : List AObj := [.box 51 [o0,(.arr 1),(.arr 2),(.arr 3),(.arr 4),o1], .arr 3 1 (.sym 2), .arr 3 1 (.sym 3), .arr 3 1 (.sym 4), .arr 3 1 (.sym 5)]
def y26 : Env := [(11,o0),(10,o1),(1,(rA 0)),(3,(rA 5))]
def y27 : Env := [(2,(rA 0)),(0,o7)]
def y28 : List AObj := [.box 51 [o0,(.arr 1),(.arr 2),(.arr 3),nA,nA], .arr 3 1 (.sym 1), .arr 3 1 (.sym 2), .arr 3 1 (.sym 3)]
def y29 : List AV := [(.fn 25 [(.ptr 0 0),(.ptr 1 0),(.ptr 6 0)])]
def y30 : List AV := [(.fn 25 [(.ptr 0 0),(.ptr 1 0),(.ptr 8 0)])]
def en60 : Ent := eF 10 [o0] [] 1 35
def en92 : Ent := wkE en60 62 60
def enL : List Ent := [
  eF 9 [o0] [] 1 0,
  eL 0 0 9 [(15,o0),(14,o1),(13,o2),(4,o3),(0,o4)] [] 5 1,
  eL 2 0 9 [(21,o0),(20,o1),(19,o2),(4,o3),(15,o4),(14,o5),(13,o6),(0,o7)] [] 8 2,
  eL 4 4 9 [(48,o0),(47,o1),(9,(rA 0))] [.box 51 [o2,(.arr 1),(.arr 2),(.arr 3),nA,nA], .arr 3 1 (.sym 3), .arr 3 1 (.sym 4), .arr 3 1 (.sym 5)] 6 3,
  eF 17 [(rA 0)] y28 4 4,
  eL 0 7 17 y26 [.box 49 [(rA 1)], .box 51 [o2,(.arr 2),(.arr 3),(.arr 4),nA,nA], .arr 3 1 (.sym 3), .arr 3 1 (.sym 4), .arr 3 1 (.sym 5), .box 59 y10, .box 3 [o6]] 7 5,
  eL 0 7 17 y26 [.box 49 [(rA 1)], .box 51 [o2,(.arr 2),(.arr 3),(.arr 4),nA,(.arr 7)], .arr 3 1 (.sym 3), .arr 3 1 (.sym 4), .arr 3 1 (.sym 5), .box 59 y10, .box 3 [o6], .arr 31 1 (.sym 7)] 8 5,
  eL 0 7 17 y26 [.box 49 [(rA 1)], .box 51 [o2,(.arr 2),(.arr 3),(.arr 4),(.arr 7),nA], .arr 3 1 (.sym 3), .arr 3 1 (.sym 4), .arr 3 1 (.sym 5), .box 59 y10, .box 3 [o6], .arr 3 1 (.sym 7)] 8 5,
  eL 0 7 17 y26 [.box 49 [(rA 1)], .box 51 [o2,(.arr 2),(.arr 3),(.arr 4),(.arr 7),(.arr 8)], .arr 3 1 (.sym 3), .arr 3 1 (.sym 4), .arr 3 1 (.sym 5), .box 59 y10, .box 3 [o6], .arr 3 1 (.sym 7), .arr 31 1 (.sym 8)] 9 5,
  eF 18 [(rA 0)] y28 4 6,
  eL 0 5 18 [(4,nA),(0,(rA 0)),(3,(.sl 4 0 0 1))] [.box 51 [o0,(.arr 1),(.arr 2),(.arr 3),nA,nA], .arr 3 1 (.sym 1), .arr 3 1 (.sym 2), .arr 3 1 (.sym 3), .box 4 []] 4 7,
  eF 18 [(rA 0)] [.box 51 [o0,(.arr 1),(.arr 2),(.arr 3),nA,(.arr 4)], .arr 3 1 (.sym 1), .arr 3 1 (.sym 2), .arr 3 1 (.sym 3), .arr 31 1 (.sym 4)] 5 8,
  eL 0 6 18 [(4,nA),(0,(rA 0)),(3,(.arr 5))] [.box 51 [o0,(.arr 1),(.arr 2),(.arr 3),nA,(.arr 4)], .arr 3 1 (.sym 1), .arr 3 1 (.sym 2), .arr 3 1 (.sym 3), .arr 31 1 (.sym 4), .arr 4 1 (.sym 5)] 6 9,
  eL 0 6 18 [(4,(.arr 6)),(0,(rA 0)),(3,(.arr 5))] [.box 51 [o0,(.arr 1),(.arr 2),(.arr 3),nA,(.arr 4)], .arr 3 1 (.sym 1), .arr 3 1 (.sym 2), .arr 3 1 (.sym 3), .arr 31 1 (.sym 4), .arr 4 1 (.sym 5), .arr 31 1 (.sym 6)] 7 9,
  eL 2 6 18 [(26,o0),(25,o1),(0,(rA 0)),(3,(.arr 5)),(4,nA)] [.box 51 [o2,(.arr 1),(.arr 2),(.arr 3),nA,(.arr 4)], .arr 3 1 (.sym 3), .arr 3 1 (.sym 4), .arr 3 1 (.sym 5), .arr 31 1 (.sym 6), .arr 4 1 (.sym 7)] 8 10,
  eL 2 7 18 [(26,o0),(25,o1),(0,(rA 0)),(3,(.arr 5)),(4,(.arr 6))] [.box 51 [o2,(.arr 1),(.arr 2),(.arr 3),nA,(.arr 4)], .arr 3 1 (.sym 3), .arr 3 1 (.sym 4), .arr 3 1 (.sym 5), .arr 31 1 (.sym 6), .arr 4 1 (.sym 7), .arr 31 1 (.sym 8)] 9 11,
  eF 18 [(rA 0)] [.box 51 [o0,(.arr 1),(.arr 2),(.arr 3),(.arr 4),nA], .arr 3 1 (.sym 1), .arr 3 1 (.sym 2), .arr 3 1 (.sym 3), .arr 3 1 (.sym 4)] 5 12,
  eL 0 6 18 [(4,nA),(0,(rA 0)),(3,(.sl 5 0 0 1))] [.box 51 [o0,(.arr 1),(.arr 2),(.arr 3),(.arr 4),nA], .arr 3 1 (.sym 1), .arr 3 1 (.sym 2), .arr 3 1 (.sym 3), .arr 3 1 (.sym 4), .box 4 []] 5 9,
  eF 18 [(rA 0)] y9 6 13,
  eL 0 7 18 [(4,nA),(0,(rA 0)),(3,(.arr 6))] y0 7 14,
  eL 0 7 18 [(4,(.arr 7)),(0,(rA 0)),(3,(.arr 6))] y2 8 14,
  eL 2 7 18 [(26,o0),(25,o1),(0,(rA 0)),(3,(.arr 6)),(4,nA)] [.box 51 [o2,(.arr 1),(.arr 2),(.arr 3),(.arr 4),(.arr 5)], .arr 3 1 (.sym 3), .arr 3 1 (.sym 4), .arr 3 1 (.sym 5), .arr 3 1 (.sym 6), .arr 31 1 (.sym 7), .arr 4 1 (.sym 8)] 9 11,
  eL 2 8 18 [(26,o0),(25,o1),(0,(rA 0)),(3,(.arr 6)),(4,(.arr 7))] [.box 51 [o2,(.arr 1),(.arr 2),(.arr 3),(.arr 4),(.arr 5)], .arr 3 1 (.sym 3), .arr 3 1 (.sym 4), .arr 3 1 (.sym 5), .arr 3 1 (.sym 6), .arr 31 1 (.sym 7), .arr 4 1 (.sym 8), .arr 31 1 (.sym 9)] 10 15,
  eF 25 [o0,(rA 0),(rA 1),(rA 6)] [.box 3 [o1], .box 49 [(rA 2)], .box 51 [o2,(.arr 3),(.arr 4),(.arr 5),nA,nA], .arr 3 1 (.sym 3), .arr 3 1 (.sym 4), .arr 3 1 (.sym 5), .box 59 y29] 6 16,
  eL 0 8 25 y6 y22 10 17,
  eL 0 8 25 y6 y19 11 17,
  eL 0 8 25 y6 y21 10 17,
  eL 0 8 25 y6 y14 11 17,
  eL 3 6 25 y11 y23 9 18,
  eL 3 7 25 y11 y3 10 19,
  eF 25 [o0,(rA 0),(rA 1),(rA 7)] [.box 3 [o1], .box 49 [(rA 2)], .box 51 [o2,(.arr 3),(.arr 4),(.arr 5),nA,(.arr 6)], .arr 3 1 (.sym 3), .arr 3 1 (.sym 4), .arr 3 1 (.sym 5), .arr 31 1 (.sym 6), .box 59 y13] 7 20,
  eL 0 9 25 y7 y20 11 21,
  eL 0 9 25 y7 y15 11 21,
  eL 0 9 25 y7 y16 11 21,
  eL 0 9 25 y7 y12 11 21,
  eL 3 7 25 y11 y3 10 19,
  eF 25 [o0,(rA 0),(rA 1),(rA 7)] [.box 3 [o1], .box 49 [(rA 2)], .box 51 [o2,(.arr 3),(.arr 4),(.arr 5),(.arr 6),nA], .arr 3 1 (.sym 3), .arr 3 1 (.sym 4), .arr 3 1 (.sym 5), .arr 3 1 (.sym 6), .box 59 y13] 7 22,
  eL 0 8 25 y6 y22 10 17,
  eL 0 8 25 y6 y19 11 17,
  eL 0 8 25 y6 y21 10 17,
  eL 0 8 25 y6 y14 11 17,
  eL 3 6 25 y11 y23 9 18,
  eL 3 7 25 y11 y3 10 19,
  eF 25 [o0,(rA 0),(rA 1),(rA 8)] [.box 3 [o1], .box 49 [(rA 2)], .box 51 [o2,(.arr 3),(.arr 4),(.arr 5),(.arr 6),(.arr 7)], .arr 3 1 (.sym 3), .arr 3 1 (.sym 4), .arr 3 1 (.sym 5), .arr 3 1 (.sym 6), .arr 31 1 (.sym 7), .box 59 y30] 8 23,
  eL 0 9 25 y7 y20 11 21,
  eL 0 9 25 y7 y15 11 21,
  eL 0 9 25 y7 y16 11 21,
  eL 0 9 25 y7 y12 11 21,
  eL 3 7 25 y11 y3 10 19,
  eF 29 [(rA 0),o0,(.arr 5)] [.box 51 [o1,(.arr 1),(.arr 2),(.arr 3),nA,(.arr 4)], .arr 3 1 (.sym 2), .arr 3 1 (.sym 3), .arr 3 1 (.sym 4), .arr 31 1 (.sym 5), .arr 4 1 (.sym 6)] 7 24,
  eL 0 6 29 [(13,o0),(12,o1),(11,o2),(0,(rA 0)),(2,(.arr 5))] [.box 51 [o3,(.arr 1),(.arr 2),(.arr 3),nA,(.arr 4)], .arr 3 1 (.sym 4), .arr 3 1 (.sym 5), .arr 3 1 (.sym 6), .arr 31 1 (.sym 7), .arr 4 1 (.sym 8)] 9 25,
  eL 2 6 29 [(25,o0),(24,o1),(23,o2),(0,(rA 0)),(8,o3),(2,(.arr 5)),(13,o4),(12,o5),(11,o6)] [.box 51 [o7,(.arr 1),(.arr 2),(.arr 3),nA,(.arr 4)], .arr 3 1 (.sym 8), .arr 3 1 (.sym 9), .arr 3 1 (.sym 10), .arr 31 1 (.sym 11), .arr 4 1 (.sym 12)] 13 26,
  eF 29 [(rA 0),o0,(.arr 6)] [.box 51 [o1,(.arr 1),(.arr 2),(.arr 3),(.arr 4),(.arr 5)], .arr 3 1 (.sym 2), .arr 3 1 (.sym 3), .arr 3 1 (.sym 4), .arr 3 1 (.sym 5), .arr 31 1 (.sym 6), .arr 4 1 (.sym 7)] 8 27,
  eL 0 7 29 [(13,o0),(12,o1),(11,o2),(0,(rA 0)),(2,(.arr 6))] [.box 51 [o3,(.arr 1),(.arr 2),(.arr 3),(.arr 4),(.arr 5)], .arr 3 1 (.sym 4), .arr 3 1 (.sym 5), .arr 3 1 (.sym 6), .arr 3 1 (.sym 7), .arr 31 1 (.sym 8), .arr 4 1 (.sym 9)] 10 28,
  eL 2 7 29 [(25,o0),(24,o1),(23,o2),(0,(rA 0)),(8,o3),(2,(.arr 6)),(13,o4),(12,o5),(11,o6)] [.box 51 [o7,(.arr 1),(.arr 2),(.arr 3),(.arr 4),(.arr 5)], .arr 3 1 (.sym 8), .arr 3 1 (.sym 9), .arr 3 1 (.sym 10), .arr 3 1 (.sym 11), .arr 31 1 (.sym 12), .arr 4 1 (.sym 13)] 14 29,
  eF 26 [(.arr 0),o0] [.arr 3 1 (.sym 1)] 2 30,
  eL 0 1 26 [(8,o0),(7,o1),(1,o2),(0,(.arr 0))] [.arr 3 1 (.sym 3)] 4 31,
  eF 28 [(.arv 0 (.sym 0) (.sym 1))] [.arr 3 1 (.sym 2)] 3 32,
  eF 8 [o0] [] 1 33,
  eL 0 0 8 [(7,o0),(6,o1),(5,o2),(0,o3)] [] 4 34,
  en60,
  eL 0 0 10 [(4,o0),(0,o1)] [] 2 36,
  eL 2 0 10 [(5,o0),(0,o1),(4,o2)] [] 3 37,
  eL 4 1 10 [(9,o0),(0,o1),(7,(.arr 0)),(6,o2),(8,nA)] [.arr 4 1 (.sym 3)] 4 38,
  rn [3] (eL 4 1 10 [(9,o0),(0,o1),(7,(.arr 0)),(6,o2),(8,(.tsym 1 3))] [.arr 4 1 (.sym 4), tk 31 1 3] 5 38),
  eL 6 1 10 [(11,o0),(0,o1),(10,o2),(7,(.arr 0)),(6,o3),(8,nA),(9,o4)] [.arr 4 1 (.sym 5)] 6 39,
  rn [4] (eL 6 2 10 [(11,o0),(0,o1),(10,o2),(7,(.arr 0)),(6,o3),(8,(.tsym 1 4)),(9,o5)] [.arr 4 1 (.sym 6), tk 31 1 4] 7 40),
  eL 8 1 10 [(13,o0),(0,o1),(12,fA),(6,o2),(11,o3),(7,(.arr 0)),(8,nA),(9,o4),(10,o5)] [.arr 4 1 (.sym 6)] 7 41,
  eL 8 1 10 [(13,o0),(0,o1),(12,tA),(6,o2),(11,o3),(7,(.arr 0)),(8,nA),(9,o4),(10,o5)] [.arr 4 1 (.sym 6)] 7 41,
  rn [4] (eL 8 2 10 [(13,o0),(0,o1),(12,fA),(6,o2),(11,o3),(7,(.arr 0)),(8,(.tsym 1 4)),(9,o5),(10,o6)] [.arr 4 1 (.sym 7), tk 31 1 4] 8 42),
  rn [4] (eL 8 2 10 [(13,o0),(0,o1),(12,tA),(6,o2),(11,o3),(7,(.arr 0)),(8,(.tsym 1 4)),(9,o5),(10,o6)] [.arr 4 1 (.sym 7), tk 31 1 4] 8 42),
  eL 10 1 10 [(15,o0),(0,o1),(6,o2),(10,o3),(14,nA),(7,(.arr 0)),(8,nA),(9,o4)] [.arr 4 1 (.sym 5)] 6 43,
  rn [4] (eL 10 2 10 [(15,o0),(0,o1),(6,o2),(10,o3),(14,nA),(7,(.arr 0)),(8,(.tsym 1 4)),(9,o5)] [.arr 4 1 (.sym 6), tk 31 1 4] 7 44),
  rn [4] (eL 10 1 10 [(15,o0),(0,o1),(6,o2),(10,o3),(14,(.tsym 1 4)),(7,(.arr 0)),(8,nA),(9,o5)] [.arr 4 1 (.sym 6), tk 3 1 4] 7 43),
  rn [4,5] (eL 10 2 10 [(15,o0),(0,o1),(6,o2),(10,o3),(14,(.tsym 2 4)),(7,(.arr 0)),(8,(.tsym 1 5)),(9,o6)] [.arr 4 1 (.sym 7), tk 31 1 5, tk 3 1 4] 8 44),
  eF 11 [o0,o1] [] 2 45,
  eL 0 0 11 [(5,o0),(0,o1),(1,o2)] [] 3 46,
  eL 2 0 11 [(6,o0),(0,o1),(5,o2),(1,o3)] [] 4 47,
  eF 19 (wR 0 3) [] 3 48,
  eF 4 [o0] [] 1 49,
  eL 0 1 4 [(36,o0),(35,o1),(5,(.arr 0)),(3,o2),(0,o3)] [.arr 3 1 (.sym 4)] 5 50,
  eL 2 1 4 [(45,o0),(44,o1),(43,o2),(5,(.arr 0)),(0,o3)] [.arr 3 1 (.sym 4)] 5 51,
  eL 4 1 4 [(52,o0),(51,o1),(50,o2),(5,(.arr 0)),(7,o3),(45,o4),(44,o5),(43,o6),(0,o7)] [.arr 3 1 (.sym 8)] 9 52,
  eL 6 1 4 [(81,o0),(80,o1),(5,(.arr 0)),(0,o2),(11,o3)] [.arr 3 1 (.sym 4)] 5 53,
  eL 8 1 4 [(94,o0),(93,o1),(92,o2),(5,(.arr 0)),(12,o3),(11,o4),(81,o5),(80,o6),(0,o7)] [.arr 3 1 (.sym 8)] 9 54,
  eL 10 1 4 [(110,o0),(109,o1),(5,(.arr 0)),(12,o2),(11,o3),(81,o4),(80,o5),(0,o6)] [.arr 3 1 (.sym 7)] 8 55,
  eF 3 [o0] [] 1 56,
  eF 5 [o0,o1] [] 2 57,
  eL 0 0 5 [(27,o0),(26,o1),(25,o2),(5,o3),(0,o4),(1,o5)] [] 6 58,
  eF 7 [] [] 0 59,
  eF 12 [o0] [] 1 60,
  eF 27 [(.fn 38 [(.ptr 0 0)])] [.box 31 [(.arv 1 (.sym 0) (.sym 1))], .arr 3 1 (.sym 2)] 3 61,
  en92]
def shT : List (List Shape) := [
  [yU (.tup [o0,o1]) 2],
  [yE .ret [(2,o0),(3,o1)] [] 2, yE (.exit 0) [(0,o0),(4,o1)] [] 2],
  [yE .ret [(2,o0),(3,o1)] [] 2, yE (.exit 2) [(15,o0),(14,o1),(13,o2),(4,o3),(0,o4)] [] 5],
  [yE (.exit 4) [(9,(rA 0))] y18 6],
  [yV (.tup []) y18 6, yV (.tup []) y24 6, yV (.tup []) y25 6, yV (.tup []) y9 6],
  [yE (.exit 0) [] [.box 49 [(rA 1)], .box 51 [o0,(.arr 2),(.arr 3),(.arr 4),o1,o2], .arr 3 1 (.sym 3), .arr 3 1 (.sym 4), .arr 3 1 (.sym 5), .box 59 y10, .box 3 [o6]] 7, yE (.exit 0) [] [.box 49 [(rA 1)], .box 51 [o0,(.arr 2),(.arr 3),(.arr 4),o1,(.arr 7)], .arr 3 1 (.sym 2), .arr 3 1 (.sym 3), .arr 3 1 (.sym 4), .box 59 y10, .box 3 [o5], .arr 31 1 (.sym 6)] 7, yE (.exit 0) [] [.box 49 [(rA 1)], .box 51 [o0,(.arr 2),(.arr 3),(.arr 4),(.arr 7),o1], .arr 3 1 (.sym 2), .arr 3 1 (.sym 3), .arr 3 1 (.sym 4), .box 59 y10, .box 3 [o5], .arr 3 1 (.sym 6)] 7, yE (.exit 0) [] [.box 49 [(rA 1)], .box 51 [o0,(.arr 2),(.arr 3),(.arr 4),(.arr 7),(.arr 8)], .arr 3 1 (.sym 1), .arr 3 1 (.sym 2), .arr 3 1 (.sym 3), .box 59 y10, .box 3 [o4], .arr 3 1 (.sym 5), .arr 31 1 (.sym 6)] 7],
  [yV o6 y18 7],
  [yE (.exit 0) [(4,o6)] [.box 51 [o0,(.arr 1),(.arr 2),(.arr 3),o1,o2], .arr 3 1 (.sym 3), .arr 3 1 (.sym 4), .arr 3 1 (.sym 5), .box 4 []] 7],
  [yV o6 y24 7],
  [yE (.exit 0) [(4,o7)] y1 8, yE (.exit 0) [(4,(.arr 6))] y8 8, yE (.exit 0) [(4,o6)] [.box 51 [o0,(.arr 1),(.arr 2),(.arr 3),(.arr 4),o1], .arr 3 1 (.sym 2), .arr 3 1 (.sym 3), .arr 3 1 (.sym 4), .arr 3 1 (.sym 5), .box 4 []] 7],
  [yE (.exit 1) [(4,(.arr 6)),(0,(rA 0)),(3,(.arr 5))] y8 8, yE (.exit 2) [(4,o7),(0,(rA 0)),(3,(.arr 5))] y1 8],
  [yE (.exit 1) [(4,(.arr 7)),(0,(rA 0)),(3,(.arr 5))] [.box 51 [o0,(.arr 1),(.arr 2),(.arr 3),o1,(.arr 4)], .arr 3 1 (.sym 2), .arr 3 1 (.sym 3), .arr 3 1 (.sym 4), .arr 31 1 (.sym 5), .arr 4 1 (.sym 6), .dead, .arr 31 1 (.sym 7)] 8, yE (.exit 2) [(4,(.arr 6)),(0,(rA 0)),(3,(.arr 5))] y8 8, yE (.exit 1) [(4,(.arr 7)),(0,(rA 0)),(3,(.arr 6))] y2 8, yE (.exit 2) [(4,o7),(0,(rA 0)),(3,(.arr 6))] y0 8],
  [yV o6 y25 7],
  [yV o6 y9 7],
  [yE (.exit 0) [(4,o7)] y0 8, yE (.exit 0) [(4,(.arr 7))] y2 8],
  [yE (.exit 1) [(4,(.arr 8)),(0,(rA 0)),(3,(.arr 6))] [.box 51 [o0,(.arr 1),(.arr 2),(.arr 3),(.arr 4),(.arr 5)], .arr 3 1 (.sym 1), .arr 3 1 (.sym 2), .arr 3 1 (.sym 3), .arr 3 1 (.sym 4), .arr 31 1 (.sym 5), .arr 4 1 (.sym 6), .dead, .arr 31 1 (.sym 7)] 8, yE (.exit 2) [(4,(.arr 7)),(0,(rA 0)),(3,(.arr 6))] y2 8],
  [yV (.tup []) [.box 3 [o0], .box 49 [(rA 2)], .box 51 [o1,(.arr 3),(.arr 4),(.arr 5),(.arr 7),o2], .arr 3 1 (.sym 3), .arr 3 1 (.sym 4), .arr 3 1 (.sym 5), .box 59 y29, .arr 3 1 (.sym 6)] 7, yV (.tup []) [.box 3 [o0], .box 49 [(rA 2)], .box 51 [o1,(.arr 3),(.arr 4),(.arr 5),(.arr 7),(.arr 8)], .arr 3 1 (.sym 2), .arr 3 1 (.sym 3), .arr 3 1 (.sym 4), .box 59 y29, .arr 3 1 (.sym 5), .arr 31 1 (.sym 6)] 7],
  [yE (.exit 0) y27 [.box 49 [(rA 1)], .box 51 [o0,(.arr 2),(.arr 3),(.arr 4),(.arr 5),o1], .arr 3 1 (.sym 2), .arr 3 1 (.sym 3), .arr 3 1 (.sym 4), .arr 3 1 (.sym 5), .box 59 y4, .box 3 [o6]] 8, yE (.exit 0) y27 [.box 49 [(rA 1)], .box 51 [o0,(.arr 2),(.arr 3),(.arr 4),(.arr 5),(.arr 8)], .arr 3 1 (.sym 1), .arr 3 1 (.sym 2), .arr 3 1 (.sym 3), .arr 3 1 (.sym 4), .box 59 y4, .box 3 [o5], .arr 31 1 (.sym 6)] 8, yE (.exit 0) y27 [.box 49 [(rA 1)], .box 51 [o0,(.arr 2),(.arr 3),(.arr 4),(.arr 8),o1], .arr 3 1 (.sym 2), .arr 3 1 (.sym 3), .arr 3 1 (.sym 4), .dead, .box 59 y4, .box 3 [o5], .arr 3 1 (.sym 6)] 8, yE (.exit 0) y27 [.box 49 [(rA 1)], .box 51 [o0,(.arr 2),(.arr 3),(.arr 4),(.arr 8),(.arr 9)], .arr 3 1 (.sym 1), .arr 3 1 (.sym 2), .arr 3 1 (.sym 3), .dead, .box 59 y4, .box 3 [o4], .arr 3 1 (.sym 5), .arr 31 1 (.sym 6)] 8],
  [yE (.exit 3) [(2,(rA 0)),(8,o6)] [.box 49 [(rA 1)], .box 51 [o0,(.arr 2),(.arr 3),(.arr 4),(.arr 5),o1], .arr 3 1 (.sym 2), .arr 3 1 (.sym 3), .arr 3 1 (.sym 4), .arr 3 1 (.sym 5)] 7],
  [yE (.exit 3) [(2,(rA 0)),(8,o6)] [.box 49 [(rA 1)], .box 51 [o0,(.arr 2),(.arr 3),(.arr 4),(.arr 5),(.arr 6)], .arr 3 1 (.sym 1), .arr 3 1 (.sym 2), .arr 3 1 (.sym 3), .arr 3 1 (.sym 4), .arr 31 1 (.sym 5)] 7],
  [yV (.tup []) [.box 3 [o0], .box 49 [(rA 2)], .box 51 [o1,(.arr 3),(.arr 4),(.arr 5),(.arr 8),(.arr 6)], .arr 3 1 (.sym 2), .arr 3 1 (.sym 3), .arr 3 1 (.sym 4), .arr 31 1 (.sym 5), .box 59 y13, .arr 3 1 (.sym 6)] 7, yV (.tup []) y17 7],
  [yE (.exit 0) y27 [.box 49 [(rA 1)], .box 51 [o0,(.arr 2),(.arr 3),(.arr 4),(.arr 5),(.arr 6)], .arr 3 1 (.sym 1), .arr 3 1 (.sym 2), .arr 3 1 (.sym 3), .arr 3 1 (.sym 4), .arr 31 1 (.sym 5), .box 59 y5, .box 3 [o6]] 8, yE (.exit 0) y27 [.box 49 [(rA 1)], .box 51 [o0,(.arr 2),(.arr 3),(.arr 4),(.arr 5),(.arr 9)], .arr 3 1 (.sym 1), .arr 3 1 (.sym 2), .arr 3 1 (.sym 3), .arr 3 1 (.sym 4), .dead, .box 59 y5, .box 3 [o5], .arr 31 1 (.sym 6)] 8, yE (.exit 0) y27 [.box 49 [(rA 1)], .box 51 [o0,(.arr 2),(.arr 3),(.arr 4),(.arr 9),(.arr 6)], .arr 3 1 (.sym 1), .arr 3 1 (.sym 2), .arr 3 1 (.sym 3), .dead, .arr 31 1 (.sym 4), .box 59 y5, .box 3 [o5], .arr 3 1 (.sym 6)] 8, yE (.exit 0) y27 [.box 49 [(rA 1)], .box 51 [o0,(.arr 2),(.arr 3),(.arr 4),(.arr 9),(.arr 10)], .arr 3 1 (.sym 1), .arr 3 1 (.sym 2), .arr 3 1 (.sym 3), .dead, .dead, .box 59 y5, .box 3 [o4], .arr 3 1 (.sym 5), .arr 31 1 (.sym 6)] 8],
  [yV (.tup []) [.box 3 [o0], .box 49 [(rA 2)], .box 51 [o1,(.arr 3),(.arr 4),(.arr 5),(.arr 8),o2], .arr 3 1 (.sym 3), .arr 3 1 (.sym 4), .arr 3 1 (.sym 5), .dead, .box 59 y13, .arr 3 1 (.sym 6)] 7, yV (.tup []) y17 7],
  [yV (.tup []) [.box 3 [o0], .box 49 [(rA 2)], .box 51 [o1,(.arr 3),(.arr 4),(.arr 5),(.arr 9),(.arr 7)], .arr 3 1 (.sym 2), .arr 3 1 (.sym 3), .arr 3 1 (.sym 4), .dead, .arr 31 1 (.sym 5), .box 59 y30, .arr 3 1 (.sym 6)] 7, yV (.tup []) [.box 3 [o0], .box 49 [(rA 2)], .box 51 [o1,(.arr 3),(.arr 4),(.arr 5),(.arr 9),(.arr 10)], .arr 3 1 (.sym 2), .arr 3 1 (.sym 3), .arr 3 1 (.sym 4), .dead, .dead, .box 59 y30, .arr 3 1 (.sym 5), .arr 31 1 (.sym 6)] 7],
  [yV o7 y1 8],
  [yE .ret [(6,o7)] y1 8, yE (.exit 0) [] y1 7],
  [yE .ret [(6,o7)] y1 8, yE (.exit 2) [(13,o7),(12,o8),(11,o9),(0,(rA 0)),(2,(.arr 5))] y1 10],
  [yV o7 y0 8],
  [yE .ret [(6,o7)] y0 8, yE (.exit 0) [] y0 7],
  [yE .ret [(6,o7)] y0 8, yE (.exit 2) [(13,o7),(12,o8),(11,o9),(0,(rA 0)),(2,(.arr 6))] y0 10],
  [yV o1 [.arr 3 1 (.sym 0)] 2],
  [yE .ret [(4,o1)] [.arr 3 1 (.sym 0)] 2, yE (.exit 0) [] [.arr 3 1 (.sym 0)] 1],
  [yV (.fn 38 [(.ptr 1 0)]) [.arr 3 1 (.sym 0), .box 31 [(.arv 0 (.sym 1) (.sym 2))]] 3],
  [yU o0 1],
  [yE .ret [(2,o0)] [] 1, yE (.exit 0) [(0,o0)] [] 1],
  [yU (.tup [o0,o1]) 2, yW (.tup [(.tsym 0 0),o1]) [tk 31 1 0] 2 [0]],
  [yE .ret [(2,o0),(3,o1)] [] 2, yE (.exit 0) [(0,o0)] [] 1],
  [yE .ret [(2,o0),(3,o1)] [] 2, yE (.exit 2) [(4,o0),(0,o1)] [] 2],
  [yE (.exit 4) [(8,o1)] [.arr 4 1 (.sym 0)] 2, yR (.exit 4) [(8,(.tsym 1 1))] [.arr 4 1 (.sym 0), tk 31 1 1] 2 [1]],
  [yE (.exit 6) [(10,o1),(0,o2),(6,o3),(7,(.arr 0)),(8,o4),(9,o5)] [.arr 4 1 (.sym 0)] 6],
  [yR (.exit 6) [(10,o1),(0,o2),(6,o3),(7,(.arr 0)),(8,(.tsym 1 4)),(9,o5)] [.arr 4 1 (.sym 0), tk 31 1 4] 6 [4]],
  [yE (.exit 8) [(12,o1),(11,o2),(0,o3),(7,(.arr 0)),(6,o4),(8,o5),(9,o6),(10,o7)] [.arr 4 1 (.sym 0)] 8],
  [yR (.exit 8) [(12,o1),(11,o2),(0,o3),(7,(.arr 0)),(6,o4),(8,(.tsym 1 5)),(9,o6),(10,o7)] [.arr 4 1 (.sym 0), tk 31 1 5] 8 [5]],
  [yE (.exit 10) [(8,o1),(14,o2),(9,o3),(0,o4),(7,(.arr 0)),(6,o5)] [.arr 4 1 (.sym 0)] 6, yR (.exit 10) [(8,o1),(14,(.tsym 1 2)),(9,o3),(0,o4),(7,(.arr 0)),(6,o5)] [.arr 4 1 (.sym 0), tk 3 1 2] 6 [2]],
  [yR (.exit 10) [(8,(.tsym 1 1)),(14,o2),(9,o3),(0,o4),(7,(.arr 0)),(6,o5)] [.arr 4 1 (.sym 0), tk 31 1 1] 6 [1], yR (.exit 10) [(8,(.tsym 1 1)),(14,(.tsym 2 2)),(9,o3),(0,o4),(7,(.arr 0)),(6,o5)] [.arr 4 1 (.sym 0), tk 31 1 1, tk 3 1 2] 6 [1,2]],
  [yU o0 1],
  [yE .ret [(4,o0)] [] 1, yE (.exit 0) [] [] 0],
  [yE .ret [(4,o0)] [] 1, yE (.exit 2) [(5,o0),(0,o1),(1,o2)] [] 3],
  [yU o0 1],
  [yU o0 1],
  [yE (.exit 0) [(3,o1),(5,(.arr 0)),(0,o2)] [.arr 3 1 (.sym 0)] 3],
  [yE .ret [(2,o1)] [.arr 3 1 (.sym 0)] 2, yE (.exit 2) [(0,o1),(5,(.arr 0))] [.arr 3 1 (.sym 0)] 2],
  [yE .ret [(2,o1)] [.arr 3 1 (.sym 0)] 2, yE (.exit 4) [(45,o1),(44,o2),(43,o3),(5,(.arr 0)),(0,o4)] [.arr 3 1 (.sym 0)] 5],
  [yE .ret [(2,o1)] [.arr 3 1 (.sym 0)] 2, yE (.exit 6) [] [.arr 3 1 (.sym 0)] 1],
  [yE .ret [(2,o1)] [.arr 3 1 (.sym 0)] 2, yE (.exit 8) [(5,(.arr 0)),(12,o1),(11,o2),(81,o3),(80,o4),(0,o5)] [.arr 3 1 (.sym 0)] 6],
  [yE .ret [(2,o1)] [.arr 3 1 (.sym 0)] 2, yE (.exit 10) [(81,o1),(80,o2),(5,(.arr 0)),(0,o3),(11,o4)] [.arr 3 1 (.sym 0)] 5],
  [yU o0 1],
  [yU o0 1],
  [yE .ret [(4,o0)] [] 1, yE (.exit 0) [(0,o0),(1,o1),(5,o2)] [] 3],
  [yU o0 1],
  [yU o0 1],
  [yV o3 [.box 31 [(.arv 1 (.sym 0) (.sym 1))], .arr 3 1 (.sym 2)] 4],
  [yU (.tup [o0,o1]) 2]]
def etL : List Et := [k1 g9, k5 g9b0a, k8 g9b2a, k6 g9b4a, k4 g17a, k7 g17ab0a, k8 g17ab0b, k8 g17ab0c, k9 g17ab0d, k4 g18a, k4 g18ab0a, k5 g18b, k6 g18bb0a, k7 g18bb0b, k8 g18bb2a, k9 g18bb2b, k5 g18c, k5 g18cb0a, k6 g18d, k7 g18db0a, k8 g18db0b, k9 g18db2a, k10 g18db2b, k6 g25a, k10 g25ab0a, k11 g25ab0b, k10 g25ab0c, k11 g25ab0d, k9 g25ab3a, k10 g25ab3b, k7 g25b, k11 g25bb0a, k11 g25bb0b, k11 g25bb0c, k11 g25bb0d, k10 g25bb3a, k7 g25c, k10 g25cb0a, k11 g25cb0b, k10 g25cb0c, k11 g25cb0d, k9 g25cb3a, k10 g25cb3b, k8 g25d, k11 g25db0a, k11 g25db0b, k11 g25db0c, k11 g25db0d, k10 g25db3a, k7 g29a, k9 g29ab0a, k13 g29ab2a, k8 g29b, k10 g29bb0a, k14 g29bb2a, k2 g26a, k4 g26ab0a, k3 g28a, k1 g8, k4 g8b0a, k1 g10, k2 g10b0a, k3 g10b2a, k4 g10b4a, k5 g10b4b, k6 g10b6a, k7 g10b6b, k7 g10b8a, k7 g10b8b, k8 g10b8c, k8 g10b8d, k6 g10b10a, k7 g10b10b, k7 g10b10c, k8 g10b10d, k2 g11, k3 g11b0a, k4 g11b2a, k3 g19, k1 g4, k5 g4b0a, k5 g4b2a, k9 g4b4a, k5 g4b6a, k9 g4b8a, k8 g4b10a, k1 g3, k2 g5, k6 g5b0a, .ext awkP, .ext rchP, .ext srtV, etNo]
def SS : Nat → List Shape := nth [] shT
def EE : Nat → Ent := nth dEn enL
def TT : Nat → Et := nth etNo etL
noncomputable abbrev ev : Q → Option Rs := Evl PG EE TT
abbrev RK (k : Nat) : Prop := RuleOk PG SS EE TT k
abbrev q9 (a : PV) : Q := ⟨0, [a]⟩
abbrev q9b0a (a b c d e : PV) : Q := ⟨1, [a, b, c, d, e]⟩
abbrev q9b2a (a b c d e f g h : PV) : Q := ⟨2, [a, b, c, d, e, f, g, h]⟩
abbrev q9b4a (a b c d e f : PV) : Q := ⟨3, [a, b, c, d, e, f]⟩
abbrev q17a (a b c d : PV) : Q := ⟨4, [a, b, c, d]⟩
abbrev q17ab0a (a b c d e f g : PV) : Q := ⟨5, [a, b, c, d, e, f, g]⟩
abbrev q17ab0b (a b c d e f g h : PV) : Q := ⟨6, [a, b, c, d, e, f, g, h]⟩
abbrev q17ab0c (a b c d e f g h : PV) : Q := ⟨7, [a, b, c, d, e, f, g, h]⟩
abbrev q17ab0d (a b c d e f g h i : PV) : Q := ⟨8, [a, b, c, d, e, f, g, h, i]⟩
abbrev q18a (a b c d : PV) : Q := ⟨9, [a, b, c, d]⟩
abbrev q18ab0a (a b c d : PV) : Q := ⟨10, [a, b, c, d]⟩
abbrev q18b (a b c d e : PV) : Q := ⟨11, [a, b, c, d, e]⟩
abbrev q18bb0a (a b c d e f : PV) : Q := ⟨12, [a, b, c, d, e, f]⟩
abbrev q18bb0b (a b c d e f g : PV) : Q := ⟨13, [a, b, c, d, e, f, g]⟩
abbrev q18bb2a (a b c d e f g h : PV) : Q := ⟨14, [a, b, c, d, e, f, g, h]⟩
abbrev q18bb2b (a b c d e f g h i : PV) : Q := ⟨15, [a, b, c, d, e, f, g, h, i]⟩
abbrev q18c (a b c d e : PV) : Q := ⟨16, [a, b, c, d, e]⟩
abbrev q18cb0a (a b c d e : PV) : Q := ⟨17, [a, b, c, d, e]⟩
abbrev q18d (a b c d e f : PV) : Q := ⟨18, [a, b, c, d, e, f]⟩
abbrev q18db0a (a b c d e f g : PV) : Q := ⟨19, [a, b, c, d, e, f, g]⟩
abbrev q18db0b (a b c d e f g h : PV) : Q := ⟨20, [a, b, c, d, e, f, g, h]⟩
abbrev q18db2a (a b c d e f g h i : PV) : Q := ⟨21, [a, b, c, d, e, f, g, h, i]⟩
abbrev q18db2b (a b c d e f g h i j : PV) : Q := ⟨22, [a, b, c, d, e, f, g, h, i, j]⟩
abbrev q25a (a b c d e f : PV) : Q := ⟨23, [a, b, c, d, e, f]⟩
abbrev q25ab0a (a b c d e f g h i j : PV) : Q := ⟨24, [a, b, c, d, e, f, g, h, i, j]⟩
abbrev q25ab0b (a b c d e f g h i j k : PV) : Q := ⟨25, [a, b, c, d, e, f, g, h, i, j, k]⟩
abbrev q25ab0c (a b c d e f g h i j : PV) : Q := ⟨26, [a, b, c, d, e, f, g, h, i, j]⟩
abbrev q25ab0d (a b c d e f g h i j k : PV) : Q := ⟨27, [a, b, c, d, e, f, g, h, i, j, k]⟩
abbrev q25ab3a (a b c d e f g h i : PV) : Q := ⟨28, [a, b, c, d, e, f, g, h, i]⟩
abbrev q25ab3b (a b c d e f g h i j : PV) : Q := ⟨29, [a, b, c, d, e, f, g, h, i, j]⟩
abbrev q25b (a b c d e f g : PV) : Q := ⟨30, [a, b, c, d, e, f, g]⟩
abbrev q25bb0a (a b c d e f g h i j k : PV) : Q := ⟨31, [a, b, c, d, e, f, g, h, i, j, k]⟩
abbrev q25bb0b (a b c d e f g h i j k : PV) : Q := ⟨32, [a, b, c, d, e, f, g, h, i, j, k]⟩
abbrev q25bb0c (a b c d e f g h i j k : PV) : Q := ⟨33, [a, b, c, d, e, f, g, h, i, j, k]⟩
abbrev q25bb0d (a b c d e f g h i j k : PV) : Q := ⟨34, [a, b, c, d, e, f, g, h, i, j, k]⟩
abbrev q25bb3a (a b c d e f g h i j : PV) : Q := ⟨35, [a, b, c, d, e, f, g, h, i, j]⟩
abbrev q25c (a b c d e f g : PV) : Q := ⟨36, [a, b, c, d, e, f, g]⟩
abbrev q25cb0a (a b c d e f g h i j : PV) : Q := ⟨37, [a, b, c, d, e, f, g, h, i, j]⟩
abbrev q25cb0b (a b c d e f g h i j k : PV) : Q := ⟨38, [a, b, c, d, e, f, g, h, i, j, k]⟩
abbrev q25cb0c (a b c d e f g h i j : PV) : Q := ⟨39, [a, b, c, d, e, f, g, h, i, j]⟩
abbrev q25cb0d (a b c d e f g h i j k : PV) : Q := ⟨40, [a, b, c, d, e, f, g, h, i, j, k]⟩
abbrev q25cb3a (a b c d e f g h i : PV) : Q := ⟨41, [a, b, c, d, e, f, g, h, i]⟩
abbrev q25cb3b (a b c d e f g h i j : PV) : Q := ⟨42, [a, b, c, d, e, f, g, h, i, j]⟩
abbrev q25d (a b c d e f g h : PV) : Q := ⟨43, [a, b, c, d, e, f, g, h]⟩
abbrev q25db0a (a b c d e f g h i j k : PV) : Q := ⟨44, [a, b, c, d, e, f, g, h, i, j, k]⟩
abbrev q25db0b (a b c d e f g h i j k : PV) : Q := ⟨45, [a, b, c, d, e, f, g, h, i, j, k]⟩
abbrev q25db0c (a b c d e f g h i j k : PV) : Q := ⟨46, [a, b, c, d, e, f, g, h, i, j, k]⟩
abbrev q25db0d (a b c d e f g h i j k : PV) : Q := ⟨47, [a, b, c, d, e, f, g, h, i, j, k]⟩
abbrev q25db3a (a b c d e f g h i j : PV) : Q := ⟨48, [a, b, c, d, e, f, g, h, i, j]⟩
abbrev q29a (a b c d e f g : PV) : Q := ⟨49, [a, b, c, d, e, f, g]⟩
abbrev q29ab0a (a b c d e f g h i : PV) : Q := ⟨50, [a, b, c, d, e, f, g, h, i]⟩
abbrev q29ab2a (a b c d e f g h i j k l m : PV) : Q := ⟨51, [a, b, c, d, e, f, g, h, i, j, k, l, m]⟩
abbrev q29b (a b c d e f g h : PV) : Q := ⟨52, [a, b, c, d, e, f, g, h]⟩
abbrev q29bb0a (a b c d e f g h i j : PV) : Q := ⟨53, [a, b, c, d, e, f, g, h, i, j]⟩
abbrev q29bb2a (a b c d e f g h i j k l m n : PV) : Q := ⟨54, [a, b, c, d, e, f, g, h, i, j, k, l, m, n]⟩
abbrev q26a (a b : PV) : Q := ⟨55, [a, b]⟩
abbrev q26ab0a (a b c d : PV) : Q := ⟨56, [a, b, c, d]⟩
abbrev q28a (a b c : PV) : Q := ⟨57, [a, b, c]⟩
abbrev q8 (a : PV) : Q := ⟨58, [a]⟩
abbrev q8b0a (a b c d : PV) : Q := ⟨59, [a, b, c, d]⟩
abbrev q10 (a : PV) : Q := ⟨60, [a]⟩
abbrev q10b0a (a b : PV) : Q := ⟨61, [a, b]⟩
abbrev q10b2a (a b c : PV) : Q := ⟨62, [a, b, c]⟩
abbrev q10b4a (a b c d : PV) : Q := ⟨63, [a, b, c, d]⟩
abbrev q10b4b (a b c : PV) (d : List (List PV)) (e : PV) : Q := ⟨64, [a, b, c, .rows d, e]⟩
abbrev q10b6a (a b c d e f : PV) : Q := ⟨65, [a, b, c, d, e, f]⟩
abbrev q10b6b (a b c d : PV) (e : List (List PV)) (f g : PV) : Q := ⟨66, [a, b, c, d, .rows e, f, g]⟩
abbrev q10b8a (a b c d e f g : PV) : Q := ⟨67, [a, b, c, d, e, f, g]⟩
abbrev q10b8b (a b c d e f g : PV) : Q := ⟨68, [a, b, c, d, e, f, g]⟩
abbrev q10b8c (a b c d : PV) (e : List (List PV)) (f g h : PV) : Q := ⟨69, [a, b, c, d, .rows e, f, g, h]⟩
abbrev q10b8d (a b c d : PV) (e : List (List PV)) (f g h : PV) : Q := ⟨70, [a, b, c, d, .rows e, f, g, h]⟩
abbrev q10b10a (a b c d e f : PV) : Q := ⟨71, [a, b, c, d, e, f]⟩
abbrev q10b10b (a b c d : PV) (e : List (List PV)) (f g : PV) : Q := ⟨72, [a, b, c, d, .rows e, f, g]⟩
abbrev q10b10c (a b c d : PV) (e : List (List PV)) (f g : PV) : Q := ⟨73, [a, b, c, d, .rows e, f, g]⟩
abbrev q10b10d (a b c d : PV) (e f : List (List PV)) (g h : PV) : Q := ⟨74, [a, b, c, d, .rows e, .rows f, g, h]⟩
abbrev q11 (a b : PV) : Q := ⟨75, [a, b]⟩
abbrev q11b0a (a b c : PV) : Q := ⟨76, [a, b, c]⟩
abbrev q11b2a (a b c d : PV) : Q := ⟨77, [a, b, c, d]⟩
abbrev q19 (a b c : PV) : Q := ⟨78, [a, b, c]⟩
abbrev q4 (a : PV) : Q := ⟨79, [a]⟩
abbrev q4b0a (a b c d e : PV) : Q := ⟨80, [a, b, c, d, e]⟩
abbrev q4b2a (a b c d e : PV) : Q := ⟨81, [a, b, c, d, e]⟩
abbrev q4b4a (a b c d e f g h i : PV) : Q := ⟨82, [a, b, c, d, e, f, g, h, i]⟩
abbrev q4b6a (a b c d e : PV) : Q := ⟨83, [a, b, c, d, e]⟩
abbrev q4b8a (a b c d e f g h i : PV) : Q := ⟨84, [a, b, c, d, e, f, g, h, i]⟩
abbrev q4b10a (a b c d e f g h : PV) : Q := ⟨85, [a, b, c, d, e, f, g, h]⟩
abbrev q3 (a : PV) : Q := ⟨86, [a]⟩
abbrev q5 (a b : PV) : Q := ⟨87, [a, b]⟩
abbrev q5b0a (a b c d e f : PV) : Q := ⟨88, [a, b, c, d, e, f]⟩
abbrev q7 : Q := ⟨89, []⟩
abbrev q12 (a : PV) : Q := ⟨90, [a]⟩
abbrev q27 (a b c : PV) : Q := ⟨91, [a, b, c]⟩
abbrev q10w (a : PV) : Q := ⟨92, [a]⟩
end Go.Proofs.Ytkfdklocgpgbfaa
