/- What the entries ask and mean, written once. Printed by hq.py. -/
import Derived.Test.YtkamjbmjjhbjcaaGreatDoorBc
import Derived.Test.YtkamjbmjjhbjcaaGreatDoorBl
import Derived.Test.YtkamjbmjjhbjcaaGreatDoorProg
namespace Go.Proofs.YtkamjbmjjhbjcaaGreatDoor
open Go.RowKit
noncomputable abbrev PG : Program := Tryz.prog
abbrev bt : PV := .lit (.bool true)
abbrev bf : PV := .lit (.bool false)
abbrev nS : PV := .lit (.slice none 0 0)
abbrev e0 : PV := .lit (.string ⟨#[]⟩)
abbrev i0 : PV := .lit (.int .i64 0)
abbrev i1 : PV := .lit (.int .i64 1)
abbrev i2 : PV := .lit (.int .i64 2)
abbrev i3 : PV := .lit (.int .i64 3)
abbrev i4 : PV := .lit (.int .i64 4)
abbrev i5 : PV := .lit (.int .i64 5)
abbrev i6 : PV := .lit (.int .i64 6)
abbrev i7 : PV := .lit (.int .i64 7)
abbrev i8 : PV := .lit (.int .i64 8)
abbrev i9 : PV := .lit (.int .i64 9)
abbrev z0 : PV := .lit (.string ⟨#[95]⟩)
abbrev z1 : PV := .lit (.string ⟨#[32, 40, 32]⟩)
abbrev z2 : PV := .lit (.string ⟨#[32, 41]⟩)
abbrev z3 : PV := .lit (.string ⟨#[32]⟩)
abbrev z4 : PV := .lit (.string ⟨#[45, 62]⟩)
abbrev z5 : PV := .lit (.string ⟨#[32, 45, 62, 32]⟩)
abbrev z6 : PV := .lit (.string ⟨#[40, 32]⟩)
abbrev z7 : PV := .lit (.string ⟨#[45]⟩)
abbrev nL : PV := .lit (.slice none 0 0)
noncomputable def cI (s : List PV) (v : PV) (k : List PV → Res) : Res := consK .fail s fun y r => isK .fail v y (k r)
def cC (s : List PV) (k : PV → List PV → Res) : Res := consK .fail s k
def cN (s : List PV) (k : Res) : Res := nilK .fail s k
noncomputable def cL : List PV → List PV → (List PV → Res) → Res
  | [], s, k => k s
  | v :: vs, s, k => cI s v fun s => cL vs s k
@[simp] theorem cI_cons (y : PV) (r : List PV) (v : PV) (k : List PV → Res) : cI (y :: r) v k = isK .fail v y (k r) := rfl
@[simp] theorem cC_cons (y : PV) (r : List PV) (k : PV → List PV → Res) : cC (y :: r) k = k y r := rfl
@[simp] theorem cI_nil (v : PV) (k : List PV → Res) : cI [] v k = .fail := rfl
@[simp] theorem cC_nil (k : PV → List PV → Res) : cC [] k = .fail := rfl
@[simp] theorem cN_nil (k : Res) : cN [] k = k := rfl
@[simp] theorem cN_cons (y : PV) (r : List PV) (k : Res) : cN (y :: r) k = .fail := rfl
@[simp] theorem cL_nil (s : List PV) (k : List PV → Res) : cL [] s k = k s := rfl
@[simp] theorem cL_cons (v : PV) (vs : List PV) (y : PV) (r : List PV) (k : List PV → Res) : cL (v :: vs) (y :: r) k = isK .fail v y (cL vs r k) := rfl
@[simp] theorem cL_out (v : PV) (vs : List PV) (k : List PV → Res) : cL (v :: vs) [] k = .fail := rfl
@[simp] noncomputable def bI (b : BinOp) (t : TypeId) (u v r : PV) (k : Res) : Res := binK PG .fail b t (.pv u) (.pv v) fun w => pvK .fail w fun y => isK .fail r y k
@[simp] noncomputable def bV (b : BinOp) (t : TypeId) (u v : PV) (k : PV → Res) : Res := binK PG .fail b t (.pv u) (.pv v) fun w => pvK .fail w k
@[simp] noncomputable def lV (t : TypeId) (u : PV) (k : PV → Res) : Res := lenK PG .fail t (.pv u) fun w => pvK .fail w k
@[simp] noncomputable def xV (t : TypeId) (u i : PV) (k : List PV → Res) : Res := idxK PG .fail t (.pv u) (.pv i) fun w => cptrK .fail w k
@[simp] noncomputable def sV (t : TypeId) (u i : PV) (k : PV → Res) : Res := slcK PG .fail t (.pv u) none (some (.pv i)) fun w => pvK .fail w k
@[simp] noncomputable def bA (b : BinOp) (t : TypeId) (u v : PV) (k1 k2 : Res) : Res := Res.alt (bI b t u v (.lit (.bool true)) k1) (bI b t u v (.lit (.bool false)) k2)
@[simp] noncomputable def cA (o : Option Rs) (m n : Nat) (k1 k2 : List PV → Res) : Res := Res.alt (callK o m k1) (callK o n k2)

/-- What a program may be read as. -/
class R (T : Type) where
  U : Type
  TW : BinOp → TypeId → PV → PV → T → T → T
  E3 : PV → PV → T → T → T
  L3 : PV → PV → T → T → T
  N3 : PV → PV → T → T → T
  G3 : PV → PV → T → T → T
  E9 : PV → PV → T → T → T
  B : BinOp → TypeId → PV → PV → (PV → T) → T
  A3 : PV → PV → (PV → T) → T
  L : TypeId → PV → (PV → T) → T
  V : TypeId → TypeId → PV → (PV → T) → T
  UN : UnOp → PV → (PV → T) → T
  X : TypeId → PV → PV → U → T
  J : T → T → T
  C : Nat → List PV → Nat → U → T
  C0 : Nat → List PV → U → T
  D : Nat → List PV → Nat → Nat → U → U → T
  Q0 : Nat → List PV → T → T → T
  O : Nat → List PV → T
  O0 : List PV → T
  Y : Nat → List PV → T
  z : T → U
  ms : List PV → U → U
  mz : List PV → T → U
  v1 : (PV → U) → U
  w1 : (PV → T) → U
@[simp ↓] abbrev R.w2 {T : Type} [R T] (k : PV → PV → T) : R.U T := R.v1 fun a => R.w1 (k a)
@[simp ↓] abbrev R.w3 {T : Type} [R T] (k : PV → PV → PV → T) : R.U T := R.v1 fun a => R.w2 (k a)
@[simp ↓] abbrev R.w4 {T : Type} [R T] (k : PV → PV → PV → PV → T) : R.U T := R.v1 fun a => R.w3 (k a)
@[simp ↓] abbrev R.w5 {T : Type} [R T] (k : PV → PV → PV → PV → PV → T) : R.U T := R.v1 fun a => R.w4 (k a)
abbrev Rf : Type := Nat → Et
abbrev Ru : Type := Nat → List PV × Et
abbrev Sm : Type := (Q → Option Rs) → Res
abbrev Su : Type := (Q → Option Rs) → List PV → Res
instance : R Rf where
  U := Ru
  TW := fun b t u v x y n => .alt (.say (.bin b t (.pv u) (.pv v) (.pv bt)) (x n)) (.say (.bin b t (.pv u) (.pv v) (.pv bf)) (y n))
  E3 := fun u v x y n => .alt (.say (.bin .eql 3 (.pv u) (.pv v) (.pv bt)) (x n)) (.say (.bin .eql 3 (.pv u) (.pv v) (.pv bf)) (y n))
  L3 := fun u v x y n => .alt (.say (.bin .lss 3 (.pv u) (.pv v) (.pv bt)) (x n)) (.say (.bin .lss 3 (.pv u) (.pv v) (.pv bf)) (y n))
  N3 := fun u v x y n => .alt (.say (.bin .neq 3 (.pv u) (.pv v) (.pv bt)) (x n)) (.say (.bin .neq 3 (.pv u) (.pv v) (.pv bf)) (y n))
  G3 := fun u v x y n => .alt (.say (.bin .gtr 3 (.pv u) (.pv v) (.pv bt)) (x n)) (.say (.bin .gtr 3 (.pv u) (.pv v) (.pv bf)) (y n))
  E9 := fun u v x y n => .alt (.say (.bin .eql 9 (.pv u) (.pv v) (.pv bt)) (x n)) (.say (.bin .eql 9 (.pv u) (.pv v) (.pv bf)) (y n))
  B := fun b t u v k n => .say (.bin b t (.pv u) (.pv v) (.pv (.sym n))) (k (.sym n) (n + 1))
  A3 := fun u v k n => .say (.bin .add 3 (.pv u) (.pv v) (.pv (.sym n))) (k (.sym n) (n + 1))
  L := fun t u k n => .say (.len t (.pv u) (.pv (.sym n))) (k (.sym n) (n + 1))
  V := fun s t u k n => .say (.conv s t (.pv u) (.pv (.sym n))) (k (.sym n) (n + 1))
  UN := fun t u k n => .say (.un t (.pv u) (.pv (.sym n))) (k (.sym n) (n + 1))
  X := fun t u i k n => .say (.idx t (.pv u) (.pv i) (.cptr (k n).1)) (k n).2
  J := fun x y n => .alt (x n) (y n)
  C := fun q p s k n => .call q p s (k n).1 (k n).2
  C0 := fun q p k n => .call q p 0 (k n).1 (k n).2
  D := fun q p s t k l n => .alt (.call q p s (k n).1 (k n).2) (.call q p t (l n).1 (l n).2)
  Q0 := fun q p x y n => .alt (.call q p 0 [bt] (x n)) (.call q p 0 [bf] (y n))
  O := fun s p n => .out s p
  O0 := fun p n => .out 0 p
  Y := fun q p n => .goto q p
  z := fun x n => ([], x n)
  ms := fun p k n => (p ++ (k n).1, (k n).2)
  mz := fun p x n => (p, x n)
  v1 := fun k n => ([.sym n] ++ (k (.sym n) (n + 1)).1, (k (.sym n) (n + 1)).2)
  w1 := fun k n => ([.sym n], k (.sym n) (n + 1))
noncomputable instance : R Sm where
  U := Su
  TW := fun b t u v x y O => bA b t u v (x O) (y O)
  E3 := fun u v x y O => bA .eql 3 u v (x O) (y O)
  L3 := fun u v x y O => bA .lss 3 u v (x O) (y O)
  N3 := fun u v x y O => bA .neq 3 u v (x O) (y O)
  G3 := fun u v x y O => bA .gtr 3 u v (x O) (y O)
  E9 := fun u v x y O => bA .eql 9 u v (x O) (y O)
  B := fun b t u v k O => bV b t u v fun y => k y O
  A3 := fun u v k O => bV .add 3 u v fun y => k y O
  L := fun t u k O => lV t u fun y => k y O
  V := fun s t u k O => convK PG .fail s t (.pv u) fun w => pvK .fail w fun y => k y O
  UN := fun t u k O => unK PG .fail t (.pv u) fun w => pvK .fail w fun y => k y O
  X := fun t u i k O => xV t u i fun s => k O s
  J := fun x y O => Res.alt (x O) (y O)
  C := fun q p s k O => callK (O ⟨q, p⟩) s fun s => k O s
  C0 := fun q p k O => callK (O ⟨q, p⟩) 0 fun s => k O s
  D := fun q p s t k l O => cA (O ⟨q, p⟩) s t (fun s => k O s) fun s => l O s
  Q0 := fun q p x y O => cA (O ⟨q, p⟩) 0 0 (fun s => cI s bt fun s => cN s (x O)) fun s => cI s bf fun s => cN s (y O)
  O := fun s p O => .ok (s, p)
  O0 := fun p O => .ok (0, p)
  Y := fun q p O => passK (O ⟨q, p⟩)
  z := fun x O s => cN s (x O)
  ms := fun p k O s => cL p s (k O)
  mz := fun p x O s => cL p s fun s => cN s (x O)
  v1 := fun k O s => cC s fun av s => k av O s
  w1 := fun k O s => cC s fun av s => cN s (k av O)
@[simp ↓] theorem m_TW {b : BinOp} {t : TypeId} {u v : PV} {x y : Sm} {O} : R.TW (T := Sm) b t u v x y O = bA b t u v (x O) (y O) := rfl
@[simp ↓] theorem m_E3 {u v : PV} {x y : Sm} {O} : R.E3 (T := Sm) u v x y O = bA .eql 3 u v (x O) (y O) := rfl
@[simp ↓] theorem m_L3 {u v : PV} {x y : Sm} {O} : R.L3 (T := Sm) u v x y O = bA .lss 3 u v (x O) (y O) := rfl
@[simp ↓] theorem m_N3 {u v : PV} {x y : Sm} {O} : R.N3 (T := Sm) u v x y O = bA .neq 3 u v (x O) (y O) := rfl
@[simp ↓] theorem m_G3 {u v : PV} {x y : Sm} {O} : R.G3 (T := Sm) u v x y O = bA .gtr 3 u v (x O) (y O) := rfl
@[simp ↓] theorem m_E9 {u v : PV} {x y : Sm} {O} : R.E9 (T := Sm) u v x y O = bA .eql 9 u v (x O) (y O) := rfl
@[simp ↓] theorem m_B {b : BinOp} {t : TypeId} {u v : PV} {k : PV → Sm} {O} : R.B (T := Sm) b t u v k O = bV b t u v fun y => k y O := rfl
@[simp ↓] theorem m_A3 {u v : PV} {k : PV → Sm} {O} : R.A3 (T := Sm) u v k O = bV .add 3 u v fun y => k y O := rfl
@[simp ↓] theorem m_L {t : TypeId} {u : PV} {k : PV → Sm} {O} : R.L (T := Sm) t u k O = lV t u fun y => k y O := rfl
@[simp ↓] theorem m_V {s t : TypeId} {u : PV} {k : PV → Sm} {O} : R.V (T := Sm) s t u k O = convK PG .fail s t (.pv u) fun w => pvK .fail w fun y => k y O := rfl
@[simp ↓] theorem m_UN {t : UnOp} {u : PV} {k : PV → Sm} {O} : R.UN (T := Sm) t u k O = unK PG .fail t (.pv u) fun w => pvK .fail w fun y => k y O := rfl
@[simp ↓] theorem m_X {t : TypeId} {u i : PV} {k : Su} {O} : R.X (T := Sm) t u i k O = xV t u i fun s => k O s := rfl
@[simp ↓] theorem m_J {x y : Sm} {O} : R.J (T := Sm) x y O = Res.alt (x O) (y O) := rfl
@[simp ↓] theorem m_C {q : Nat} {p : List PV} {s : Nat} {k : Su} {O} : R.C (T := Sm) q p s k O = callK (O ⟨q, p⟩) s fun s => k O s := rfl
@[simp ↓] theorem m_C0 {q : Nat} {p : List PV} {k : Su} {O} : R.C0 (T := Sm) q p k O = callK (O ⟨q, p⟩) 0 fun s => k O s := rfl
@[simp ↓] theorem m_D {q : Nat} {p : List PV} {s t : Nat} {k l : Su} {O} : R.D (T := Sm) q p s t k l O = cA (O ⟨q, p⟩) s t (fun s => k O s) fun s => l O s := rfl
@[simp ↓] theorem m_Q0 {q : Nat} {p : List PV} {x y : Sm} {O} : R.Q0 (T := Sm) q p x y O = cA (O ⟨q, p⟩) 0 0 (fun s => cI s bt fun s => cN s (x O)) fun s => cI s bf fun s => cN s (y O) := rfl
@[simp ↓] theorem m_O {s : Nat} {p : List PV} {O} : R.O (T := Sm) s p O = .ok (s, p) := rfl
@[simp ↓] theorem m_O0 {p : List PV} {O} : R.O0 (T := Sm) p O = .ok (0, p) := rfl
@[simp ↓] theorem m_Y {q : Nat} {p : List PV} {O} : R.Y (T := Sm) q p O = passK (O ⟨q, p⟩) := rfl
@[simp ↓] theorem m_z {x : Sm} {O} {s : List PV} : R.z (T := Sm) x O s = cN s (x O) := rfl
@[simp ↓] theorem m_ms {p : List PV} {k : Su} {O} {s : List PV} : R.ms (T := Sm) p k O s = cL p s (k O) := rfl
@[simp ↓] theorem m_mz {p : List PV} {x : Sm} {O} {s : List PV} : R.mz (T := Sm) p x O s = cL p s fun s => cN s (x O) := rfl
@[simp ↓] theorem m_v1 {k : PV → Su} {O} {s : List PV} : R.v1 (T := Sm) k O s = cC s fun av s => k av O s := rfl
@[simp ↓] theorem m_w1 {k : PV → Sm} {O} {s : List PV} : R.w1 (T := Sm) k O s = cC s fun av s => cN s (k av O) := rfl
section
open R
variable {T : Type} [R T]
def g12 (a b c d e : PV) : T := J (C 1 [i0,a,b,c,d,e] 1 (mz [a,b,c,d,e] (E3 a i3 (Q0 30 [b] (TW .eql 2 c i0 (O0 [bt]) (O0 [bf])) (O0 [bf])) (L 34 d fun f=>G3 f i0 (O0 [bf]) (E3 a i1 (E9 b e0 (TW .eql 2 c i0 (O0 [bt]) (O0 [bf])) (O0 [bf])) (E3 a i2 (Q0 31 [b] (TW .eql 2 c i0 (O0 [bt]) (O0 [bf])) (O0 [bf])) (E3 a i4 (E9 b e0 (TW .geq 2 c i0 (TW .leq 2 c (iv 4611686018427387903) (O0 [bt]) (O0 [bf])) (O0 [bf])) (O0 [bf])) (O0 [bf])))))))) (D 1 [i0,a,b,c,d,e] 0 0 (mz [a,b,c,d,e,bt] (O0 [bt])) (mz [a,b,c,d,e,bf] (O0 [bf])))
def g12b0a (a b c d e f : PV) : T := L 34 e fun g=>L3 a g (X 34 e a (w5 fun h i j k l=>Q0 0 [h,i,j,k,l] (A3 a i1 fun m=>Y 1 [m,b,c,d,e,f]) (O0 [b,c,d,e,f,bf]))) (O 1 [b,c,d,e,f])
def g13 (a b c d e : PV) : T := E3 a i1 (O0 [z0]) (E3 a i4 (C0 17 [c] (w1 fun f=>O0 [f])) (C0 3 [i0,b,a,b,c,d,e] (ms [a,b,c,d,e] (w1 fun f=>O0 [f]))))
def g13b0a (a b c d e f g : PV) : T := L 34 f fun h=>L3 a h (X 34 f a (w5 fun i j k l m=>L 34 l fun n=>G3 n i0 (B .add 9 b z1 fun o=>C0 2 [i,j,k,l,m] (w1 fun p=>B .add 9 o p fun q=>B .add 9 q z2 fun r=>A3 a i1 fun s=>Y 3 [s,r,c,d,e,f,g])) (B .add 9 b z3 fun o=>C0 2 [i,j,k,l,m] (w1 fun p=>B .add 9 o p fun q=>A3 a i1 fun r=>Y 3 [r,q,c,d,e,f,g])))) (O0 [c,d,e,f,g,b])
def g14 (a b c d : PV) : T := J (C 5 [i0,a,b,c,d] 1 (mz [a,b,c,d] (N3 c i0 (O0 [bf]) (E3 a i1 (Q0 31 [b] (L 22 d fun e=>E3 e i0 (O0 [bt]) (O0 [bf])) (O0 [bf])) (E3 a i3 (Q0 30 [b] (O0 [bt]) (E9 b z4 (L 22 d fun e=>E3 e i2 (O0 [bt]) (O0 [bf])) (O0 [bf]))) (O0 [bf])))))) (D 5 [i0,a,b,c,d] 0 0 (mz [a,b,c,d,bt] (O0 [bt])) (mz [a,b,c,d,bf] (O0 [bf])))
def g14b0a (a b c d e : PV) : T := L 22 e fun f=>L3 a f (X 22 e a (w4 fun g h i j=>Q0 4 [g,h,i,j] (A3 a i1 fun k=>Y 5 [k,b,c,d,e]) (O0 [b,c,d,e,bf]))) (O 1 [b,c,d,e])
def g15 (a b c d : PV) : T := E9 b z4 (X 22 d i0 (w4 fun e f g h=>E9 f z4 (X 22 d i1 (w4 fun i j k l=>C0 13 [e,f,g,h] (w1 fun m=>B .add 9 m z5 fun n=>C0 6 [i,j,k,l] (w1 fun o=>B .add 9 n o fun p=>O0 [p])))) (X 22 d i1 (w4 fun i j k l=>C0 6 [e,f,g,h] (w1 fun m=>B .add 9 m z5 fun n=>C0 6 [i,j,k,l] (w1 fun o=>B .add 9 n o fun p=>O0 [p])))))) (C0 7 [i0,b,a,b,c,d] (ms [a,b,c,d] (w1 fun e=>O0 [e])))
def g15b0a (a b c d e f : PV) : T := L 22 f fun g=>L3 a g (B .add 9 b z3 fun h=>X 22 f a (w4 fun i j k l=>C0 13 [i,j,k,l] (w1 fun m=>B .add 9 h m fun n=>A3 a i1 fun o=>Y 7 [o,n,c,d,e,f]))) (O0 [c,d,e,f,b])
def g16 (a b c d e : PV) : T := Q0 12 [a,b,c,d,e] (E3 a i1 (O0 [z0]) (E3 a i2 (O0 [b]) (E3 a i4 (C0 32 [c] (w1 fun f=>O0 [f])) (L 34 d fun f=>C0 9 [i0,f,d,b] (w1 fun g=>O0 [g]))))) (O0 [e0])
def g16b1a (a b c d : PV) : T := L3 a b (X 34 c a (w5 fun e f g h i=>C0 8 [e,f,g,h,i] (w1 fun j=>L 34 h fun k=>G3 k i0 (B .add 9 z6 j fun l=>B .add 9 l z2 fun m=>B .add 9 z3 m fun n=>B .add 9 d n fun o=>A3 a i1 fun p=>Y 9 [p,b,c,o]) (B .add 9 z3 j fun l=>B .add 9 d l fun m=>A3 a i1 fun n=>Y 9 [n,b,c,m])))) (O0 [d])
def g17 (a b c d : PV) : T := Q0 11 [a,b,c,d] (C0 14 [a,b,c,d] (w1 fun e=>O0 [e])) (O0 [e0])
def g29 (a b c d : PV) : T := N3 c i0 (O0 [bf]) (Q0 24 [d] (E3 a i1 (Q0 29 [b] (L 22 d fun e=>E3 e i0 (O0 [bt]) (O0 [bf])) (O0 [bf])) (E3 a i3 (Q0 28 [b] (O0 [bt]) (E9 b z4 (L 22 d fun e=>E3 e i2 (O0 [bt]) (O0 [bf])) (O0 [bf]))) (O0 [bf]))) (O0 [bf]))
def g32 (a b c d e : PV) : T := E3 a i1 (E9 b e0 (TW .eql 2 c i0 (L 34 d fun f=>E3 f i0 (O0 [bt]) (O0 [bf])) (O0 [bf])) (O0 [bf])) (E3 a i2 (Q0 29 [b] (TW .eql 2 c i0 (L 34 d fun f=>E3 f i0 (O0 [bt]) (O0 [bf])) (O0 [bf])) (O0 [bf])) (E3 a i4 (E9 b e0 (TW .geq 2 c i0 (TW .leq 2 c (iv 4611686018427387903) (L 34 d fun f=>E3 f i0 (O0 [bt]) (O0 [bf])) (O0 [bf])) (O0 [bf])) (O0 [bf])) (E3 a i3 (Q0 28 [b] (TW .eql 2 c i0 (Q0 26 [d] (O0 [bt]) (O0 [bf])) (O0 [bf])) (O0 [bf])) (O0 [bf]))))
def g42 (a b c d : PV) : T := L 22 d fun e=>E3 e i0 (O0 [b]) (C0 6 [a,b,c,d] (w1 fun f=>B .add 9 z6 f fun g=>B .add 9 g z2 fun h=>O0 [h]))
def g44 (a b c d : PV) : T := E9 b z4 (X 22 d i0 (w4 fun e f g h=>C0 14 [e,f,g,h] (w1 fun i=>E9 f z4 (B .add 9 z6 i fun j=>B .add 9 j z2 fun k=>B .add 9 k z5 fun l=>X 22 d i1 (w4 fun m n o p=>C0 14 [m,n,o,p] (w1 fun q=>B .add 9 l q fun r=>O0 [r]))) (B .add 9 i z5 fun j=>X 22 d i1 (w4 fun k l m n=>C0 14 [k,l,m,n] (w1 fun o=>B .add 9 j o fun p=>O0 [p])))))) (L 22 d fun e=>C0 15 [i0,e,d,b] (w1 fun f=>O0 [f]))
def g44b0a (a b c d : PV) : T := L3 a b (X 22 c a (w4 fun e f g h=>C0 16 [e,f,g,h] (w1 fun i=>B .add 9 z3 i fun j=>B .add 9 d j fun k=>A3 a i1 fun l=>Y 15 [l,b,c,k]))) (O0 [d])
def g88 (a b c d : PV) : T := L 22 d fun e=>E3 e i0 (C0 14 [a,b,c,d] (w1 fun f=>O0 [f])) (C0 14 [a,b,c,d] (w1 fun f=>B .add 9 z6 f fun g=>B .add 9 g z2 fun h=>O0 [h]))
def g41 (a : PV) : T := C0 18 [a] (w1 fun b=>TW .lss 2 b i0 (C0 21 [b] (w1 fun c=>C0 19 [c] (w1 fun d=>B .add 9 z7 d fun e=>O0 [e]))) (C0 21 [b] (w1 fun c=>C0 19 [c] (w1 fun d=>O0 [d]))))
def g84 (a : PV) : T := C0 23 [a] (w1 fun b=>C0 22 [b] (w1 fun c=>O0 [c]))
def g85 (a : PV) : T := C0 20 [a,e0] (w2 fun b c=>B .add 123 (.lit (.int .u64 48)) b fun d=>V 123 5 d fun e=>V 126 9 (.rows [[e]]) fun f=>B .add 9 f c fun g=>O0 [g])
def g85b0a (a b : PV) : T := TW .gtr 123 a (.lit (.int .u64 9)) (B .rem 123 a (.lit (.int .u64 10)) fun c=>B .add 123 (.lit (.int .u64 48)) c fun d=>V 123 5 d fun e=>V 126 9 (.rows [[e]]) fun f=>B .add 9 f b fun g=>B .quo 123 a (.lit (.int .u64 10)) fun h=>Y 20 [h,g]) (O0 [a,b])
def g86 (a : PV) : T := TW .lss 2 a i0 (B .add 2 a i1 fun b=>UN .neg b fun c=>V 2 123 c fun d=>B .add 123 d (.lit (.int .u64 1)) fun e=>O0 [e]) (V 2 123 a fun b=>O0 [b])
def g127 (a : PV) : T := TW .geq 123 a (.lit (.int .u64 4611686018427387904)) (B .sub 123 a (.lit (.int .u64 4611686018427387904)) fun b=>V 123 2 b fun c=>B .sub 2 c (iv 4611686018427387904) fun d=>O0 [d]) (V 123 2 a fun b=>O0 [b])
def g128 (a : PV) : T := V 2 123 a fun b=>B .rem 123 b (.lit (.int .u64 9223372036854775808)) fun c=>O0 [c]
def g74a (a : PV) : T := L 22 a fun b=>J (C 25 [i0,b,a] 1 (z (O0 [bt]))) (Q0 25 [i0,b,a] (O0 [bt]) (O0 [bf]))
def g74ab0a (a b c : PV) : T := L3 a b (X 22 c a (w4 fun d e f g=>Q0 11 [d,e,f,g] (A3 a i1 fun h=>Y 25 [h,b,c]) (O0 [bf]))) (O 1 [])
def g75a (a : PV) : T := L 34 a fun b=>J (C 27 [i0,b,a] 1 (z (O0 [bt]))) (Q0 27 [i0,b,a] (O0 [bt]) (O0 [bf]))
def g75ab0a (a b c : PV) : T := L3 a b (X 34 c a (w5 fun d e f g h=>Q0 12 [d,e,f,g,h] (A3 a i1 fun i=>Y 27 [i,b,c]) (O0 [bf]))) (O 1 [])
end
def k1 (g : PV → Rf) : Et := g (.sym 0) 1
def k2 (g : PV → PV → Rf) : Et := g (.sym 0) (.sym 1) 2
def k3 (g : PV → PV → PV → Rf) : Et := g (.sym 0) (.sym 1) (.sym 2) 3
def k4 (g : PV → PV → PV → PV → Rf) : Et := g (.sym 0) (.sym 1) (.sym 2) (.sym 3) 4
def k5 (g : PV → PV → PV → PV → PV → Rf) : Et := g (.sym 0) (.sym 1) (.sym 2) (.sym 3) (.sym 4) 5
def k6 (g : PV → PV → PV → PV → PV → PV → Rf) : Et := g (.sym 0) (.sym 1) (.sym 2) (.sym 3) (.sym 4) (.sym 5) 6
def k7 (g : PV → PV → PV → PV → PV → PV → PV → Rf) : Et := g (.sym 0) (.sym 1) (.sym 2) (.sym 3) (.sym 4) (.sym 5) (.sym 6) 7
def pR : Nat → Nat → List PV
  | _, 0 => []
  | a, n + 1 => .sym a :: pR (a + 1) n
def wR : Nat → Nat → List AV
  | _, 0 => []
  | a, n + 1 => .pv (.sym a) :: wR (a + 1) n
def nA : AV := .pv nS
def eA : AV := .pv e0
def zA : AV := .pv i0
def tA : AV := .pv bt
def fA : AV := .pv bf
def rA (n : Nat) : AV := .ptr n 0
def nR : Nat → List AV
  | 0 => []
  | n + 1 => nA :: nR n
def tk (t s n : Nat) : AObj := .tok t s (symBase + n)
def eF (f : Nat) (a : List AV) (h : List AObj) (n m : Nat) : Ent := { f := f, args := a, h := h, n := n, fam := m }
def eL (a b f : Nat) (e : Env) (h : List AObj) (n m : Nat) : Ent := { lp := some (a, b), f := f, e := e, h := h, n := n, fam := m }
def rn (r : List Nat) (e : Ent) : Ent := { e with rin := r }
def wkE (e : Ent) (m b : Nat) : Ent := { e with fam := m, base := some b }
def wkM (e : Ent) (m b : Nat) (wm : List Nat) : Ent := { e with fam := m, base := some b, wm := wm }
def yU (v : AV) (m : Nat) : Shape := { v := v, m := m }
def yV (v : AV) (h : List AObj) (m : Nat) : Shape := { v := v, h := h, m := m }
def yW (v : AV) (h : List AObj) (m : Nat) (r : List Nat) : Shape := { v := v, h := h, m := m, rw := r }
def yE (x : AExit) (e : Env) (h : List AObj) (m : Nat) : Shape := { ex := x, e := e, h := h, m := m }
def yR (x : AExit) (e : Env) (h : List AObj) (m : Nat) (r : List Nat) : Shape := { ex := x, e := e, h := h, m := m, rw := r }
def b24_4 (a : Nat) : AObj := .box 24 (wR a 4)
def b36_5 (a : Nat) : AObj := .box 36 (wR a 5)
def o0 : AV := .pv (.sym 0)
def o1 : AV := .pv (.sym 1)
def o2 : AV := .pv (.sym 2)
def o3 : AV := .pv (.sym 3)
def o4 : AV := .pv (.sym 4)
def o5 : AV := .pv (.sym 5)
def y0 : List AV := [(.agg (wR 0 4))]
def enL : List Ent := [
  eF 12 [(.agg (wR 0 5))] [] 5 0,
  eL 0 1 12 [(3,o0),(1,(rA 0))] [b36_5 1] 6 1,
  eF 13 [(.agg (wR 0 5))] [] 5 2,
  eL 0 1 13 [(4,o0),(1,(rA 0)),(3,o1)] [b36_5 2] 7 3,
  eF 14 y0 [] 4 4,
  eL 0 1 14 [(3,o0),(1,(rA 0))] [b24_4 1] 5 5,
  eF 15 y0 [] 4 6,
  eL 0 1 15 [(4,o0),(1,(rA 0)),(3,o1)] [b24_4 2] 6 7,
  eF 16 [(.agg (wR 0 5))] [] 5 8,
  eL 1 0 16 [(28,o0),(27,o1),(26,o2),(3,o3)] [] 4 9,
  eF 17 y0 [] 4 10,
  eF 29 y0 [] 4 11,
  eF 32 [(.agg (wR 0 5))] [] 5 12,
  eF 42 y0 [] 4 13,
  eF 44 y0 [] 4 14,
  eL 0 0 44 [(37,o0),(36,o1),(35,o2),(4,o3)] [] 4 15,
  eF 88 y0 [] 4 16,
  eF 41 [o0] [] 1 17,
  eF 84 [o0] [] 1 18,
  eF 85 [o0] [] 1 19,
  eL 0 0 85 [(0,o0),(3,o1)] [] 2 20,
  eF 86 [o0] [] 1 21,
  eF 127 [o0] [] 1 22,
  eF 128 [o0] [] 1 23,
  eF 74 [o0,(.fn 29 [])] [] 1 24,
  eL 0 0 74 [(9,o0),(8,o1),(7,o2),(1,(.fn 29 []))] [] 3 25,
  eF 75 [o0,(.fn 32 [])] [] 1 26,
  eL 0 0 75 [(9,o0),(8,o1),(7,o2),(1,(.fn 32 []))] [] 3 27,
  eF 72 [o0] [] 1 28,
  eF 73 [o0] [] 1 29,
  eF 39 [o0] [] 1 30,
  eF 40 [o0] [] 1 31,
  eF 43 [o0] [] 1 32]
def shT : List (List Shape) := [
  [yU o0 1],
  [yE .ret [(2,o5)] [b36_5 0] 6, yE (.exit 0) [(1,(rA 0))] [b36_5 0] 5],
  [yU o0 1],
  [yE (.exit 0) [(3,o5)] [b36_5 0] 6],
  [yU o0 1],
  [yE .ret [(2,o4)] [b24_4 0] 5, yE (.exit 0) [(1,(rA 0))] [b24_4 0] 4],
  [yU o0 1],
  [yE (.exit 0) [(3,o4)] [b24_4 0] 5],
  [yU o0 1],
  [yE (.exit 1) [(3,o0)] [] 1],
  [yU o0 1],
  [yU o0 1],
  [yU o0 1],
  [yU o0 1],
  [yU o0 1],
  [yE (.exit 0) [(4,o0)] [] 1],
  [yU o0 1],
  [yU o0 1],
  [yU o0 1],
  [yU o0 1],
  [yE (.exit 0) [(0,o0),(3,o1)] [] 2],
  [yU o0 1],
  [yU o0 1],
  [yU o0 1],
  [yU o0 1],
  [yE .ret [(4,o0)] [] 1, yE (.exit 0) [] [] 0],
  [yU o0 1],
  [yE .ret [(4,o0)] [] 1, yE (.exit 0) [] [] 0],
  [yU o0 1],
  [yU o0 1],
  [yU o0 1],
  [yU o0 1],
  [yU o0 1]]
def etL : List Et := [k5 g12, k6 g12b0a, k5 g13, k7 g13b0a, k4 g14, k5 g14b0a, k4 g15, k6 g15b0a, k5 g16, k4 g16b1a, k4 g17, k4 g29, k5 g32, k4 g42, k4 g44, k4 g44b0a, k4 g88, k1 g41, k1 g84, k1 g85, k2 g85b0a, k1 g86, k1 g127, k1 g128, k1 g74a, k3 g74ab0a, k1 g75a, k3 g75ab0a, .ext (extL1 xUp), .ext (extL1 xLow), .ext (extL1 xUp), .ext (extL1 xLow), .ext (extL1 xTxt)]
def SS : Nat → List Shape := nth [] shT
def EE : Nat → Ent := nth dEn enL
def TT : Nat → Et := nth etNo etL
noncomputable abbrev ev : Q → Option Rs := Evl PG EE TT
abbrev RK (k : Nat) : Prop := RuleOk PG SS EE TT k
abbrev q12 (a b c d e : PV) : Q := ⟨0, [a, b, c, d, e]⟩
abbrev q12b0a (a b c d e f : PV) : Q := ⟨1, [a, b, c, d, e, f]⟩
abbrev q13 (a b c d e : PV) : Q := ⟨2, [a, b, c, d, e]⟩
abbrev q13b0a (a b c d e f g : PV) : Q := ⟨3, [a, b, c, d, e, f, g]⟩
abbrev q14 (a b c d : PV) : Q := ⟨4, [a, b, c, d]⟩
abbrev q14b0a (a b c d e : PV) : Q := ⟨5, [a, b, c, d, e]⟩
abbrev q15 (a b c d : PV) : Q := ⟨6, [a, b, c, d]⟩
abbrev q15b0a (a b c d e f : PV) : Q := ⟨7, [a, b, c, d, e, f]⟩
abbrev q16 (a b c d e : PV) : Q := ⟨8, [a, b, c, d, e]⟩
abbrev q16b1a (a b c d : PV) : Q := ⟨9, [a, b, c, d]⟩
abbrev q17 (a b c d : PV) : Q := ⟨10, [a, b, c, d]⟩
abbrev q29 (a b c d : PV) : Q := ⟨11, [a, b, c, d]⟩
abbrev q32 (a b c d e : PV) : Q := ⟨12, [a, b, c, d, e]⟩
abbrev q42 (a b c d : PV) : Q := ⟨13, [a, b, c, d]⟩
abbrev q44 (a b c d : PV) : Q := ⟨14, [a, b, c, d]⟩
abbrev q44b0a (a b c d : PV) : Q := ⟨15, [a, b, c, d]⟩
abbrev q88 (a b c d : PV) : Q := ⟨16, [a, b, c, d]⟩
abbrev q41 (a : PV) : Q := ⟨17, [a]⟩
abbrev q84 (a : PV) : Q := ⟨18, [a]⟩
abbrev q85 (a : PV) : Q := ⟨19, [a]⟩
abbrev q85b0a (a b : PV) : Q := ⟨20, [a, b]⟩
abbrev q86 (a : PV) : Q := ⟨21, [a]⟩
abbrev q127 (a : PV) : Q := ⟨22, [a]⟩
abbrev q128 (a : PV) : Q := ⟨23, [a]⟩
abbrev q74a (a : PV) : Q := ⟨24, [a]⟩
abbrev q74ab0a (a b c : PV) : Q := ⟨25, [a, b, c]⟩
abbrev q75a (a : PV) : Q := ⟨26, [a]⟩
abbrev q75ab0a (a b c : PV) : Q := ⟨27, [a, b, c]⟩
abbrev q72 (a : PV) : Q := ⟨28, [a]⟩
abbrev q73 (a : PV) : Q := ⟨29, [a]⟩
abbrev q39 (a : PV) : Q := ⟨30, [a]⟩
abbrev q40 (a : PV) : Q := ⟨31, [a]⟩
abbrev q43 (a : PV) : Q := ⟨32, [a]⟩
end Go.Proofs.YtkamjbmjjhbjcaaGreatDoor
