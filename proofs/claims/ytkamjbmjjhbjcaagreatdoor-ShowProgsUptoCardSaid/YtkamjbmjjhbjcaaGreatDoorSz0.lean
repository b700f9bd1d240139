import Derived.Test.YtkamjbmjjhbjcaaGreatDoorBc
import Derived.Test.YtkamjbmjjhbjcaaGreatDoorBl
import Derived.Test.YtkamjbmjjhbjcaaGreatDoorProg
set_option linter.unusedVariables false
set_option linter.unusedSimpArgs false
set_option linter.unusedSectionVars false
namespace Go.Proofs.YtkamjbmjjhbjcaaGreatDoor
open Go.RowKit
noncomputable abbrev PG:Program:=Tryz.prog
abbrev bt:PV:=.lit (.bool true)
abbrev bf:PV:=.lit (.bool false)
abbrev nS:PV:=.lit (.slice none 0 0)
abbrev e0:PV:=.lit (.string ⟨#[]⟩)
abbrev i0:PV:=.lit (.int .i64 0)
abbrev i1:PV:=.lit (.int .i64 1)
abbrev i2:PV:=.lit (.int .i64 2)
abbrev i3:PV:=.lit (.int .i64 3)
abbrev i4:PV:=.lit (.int .i64 4)
abbrev i5:PV:=.lit (.int .i64 5)
abbrev i6:PV:=.lit (.int .i64 6)
abbrev i7:PV:=.lit (.int .i64 7)
abbrev i8:PV:=.lit (.int .i64 8)
abbrev i9:PV:=.lit (.int .i64 9)
abbrev z0:PV:=.lit (.string ⟨#[95]⟩)
abbrev z1:PV:=.lit (.string ⟨#[32,40,32]⟩)
abbrev z2:PV:=.lit (.string ⟨#[32,41]⟩)
abbrev z3:PV:=.lit (.string ⟨#[32]⟩)
abbrev z4:PV:=.lit (.string ⟨#[45,62]⟩)
abbrev z5:PV:=.lit (.string ⟨#[32,45,62,32]⟩)
abbrev z6:PV:=.lit (.string ⟨#[40,32]⟩)
abbrev z7:PV:=.lit (.string ⟨#[45]⟩)
abbrev z8:PV:=.lit (.string ⟨#[92]⟩)
abbrev z9:PV:=.lit (.string ⟨#[105,102]⟩)
abbrev z10:PV:=.lit (.string ⟨#[116,104,101,110]⟩)
abbrev z11:PV:=.lit (.string ⟨#[101,108,115,101]⟩)
abbrev z12:PV:=.lit (.string ⟨#[108,101,116,32,114,101,99]⟩)
abbrev z13:PV:=.lit (.string ⟨#[105,110]⟩)
abbrev z14:PV:=.lit (.string ⟨#[108,101,116]⟩)
abbrev z15:PV:=.lit (.string ⟨#[97,110,100]⟩)
abbrev z16:PV:=.lit (.string ⟨#[61]⟩)
abbrev z17:PV:=.lit (.string ⟨#[99,97,115,101]⟩)
abbrev z18:PV:=.lit (.string ⟨#[111,102]⟩)
abbrev z19:PV:=.lit (.string ⟨#[101,110,100]⟩)
abbrev z20:PV:=.lit (.string ⟨#[40]⟩)
abbrev z21:PV:=.lit (.string ⟨#[58]⟩)
abbrev z22:PV:=.lit (.string ⟨#[41]⟩)
abbrev z23:PV:=.lit (.string ⟨#[124]⟩)
abbrev z24:PV:=.lit (.string ⟨#[92,32]⟩)
abbrev z25:PV:=.lit (.string ⟨#[32,45,62]⟩)
abbrev z26:PV:=.lit (.string ⟨#[114,101,99]⟩)
abbrev z27:PV:=.lit (.string ⟨#[32,61]⟩)
abbrev z28:PV:=.lit (.string ⟨#[58,32]⟩)
abbrev z29:PV:=.lit (.string ⟨#[38,38]⟩)
abbrev z30:PV:=.lit (.string ⟨#[124,124]⟩)
abbrev z31:PV:=.lit (.string ⟨#[37]⟩)
abbrev z32:PV:=.lit (.string ⟨#[47]⟩)
abbrev z33:PV:=.lit (.string ⟨#[42]⟩)
abbrev z34:PV:=.lit (.string ⟨#[43]⟩)
abbrev z35:PV:=.lit (.string ⟨#[94]⟩)
abbrev z36:PV:=.lit (.string ⟨#[58,58]⟩)
abbrev z37:PV:=.lit (.string ⟨#[62,61]⟩)
abbrev z38:PV:=.lit (.string ⟨#[62]⟩)
abbrev z39:PV:=.lit (.string ⟨#[60,61]⟩)
abbrev z40:PV:=.lit (.string ⟨#[60]⟩)
abbrev z41:PV:=.lit (.string ⟨#[47,61]⟩)
abbrev z42:PV:=.lit (.string ⟨#[61,61]⟩)
abbrev z43:PV:=.lit (.string ⟨#[58,61]⟩)
abbrev z44:PV:=.lit (.string ⟨#[34]⟩)
abbrev z45:PV:=.lit (.string ⟨#[92,110]⟩)
abbrev z46:PV:=.lit (.string ⟨#[92,116]⟩)
abbrev z47:PV:=.lit (.string ⟨#[34,34]⟩)
abbrev z48:PV:=.lit (.string ⟨#[10,9,34,92]⟩)
abbrev z49:PV:=.lit (.string ⟨#[110,116,34,92]⟩)
abbrev z50:PV:=.lit (.string ⟨#[100,97,116,97]⟩)
abbrev z51:PV:=.lit (.string ⟨#[32,44,32]⟩)
abbrev z52:PV:=.lit (.string ⟨#[32,100,101,114,105,118,105,110,103,32,40,32]⟩)
abbrev z53:PV:=.lit (.string ⟨#[32,59]⟩)
abbrev z54:PV:=.lit (.string ⟨#[32,61,32]⟩)
abbrev z55:PV:=.lit (.string ⟨#[32,124,32]⟩)
abbrev z56:PV:=.lit (.string ⟨#[99,108,97,115,115,32]⟩)
abbrev z57:PV:=.lit (.string ⟨#[32,102,114,111,109,32]⟩)
abbrev z58:PV:=.lit (.string ⟨#[32,119,104,101,114,101]⟩)
abbrev z59:PV:=.lit (.string ⟨#[32,101,110,100,32,59]⟩)
abbrev z60:PV:=.lit (.string ⟨#[32,58,32]⟩)
abbrev z61:PV:=.lit (.string ⟨#[105,110,115,116,97,110,99,101,32]⟩)
abbrev z62:PV:=.lit (.string ⟨#[100,101,102,32]⟩)
abbrev z63:PV:=.lit (.string ⟨#[10]⟩)
abbrev z64:PV:=.lit (.string ⟨#[100,97,116,97,32]⟩)
abbrev z65:PV:=.lit (.string ⟨#[32,59,10]⟩)
abbrev z66:PV:=.lit (.string ⟨#[32,119,104,101,114,101,32]⟩)
abbrev z67:PV:=.lit (.string ⟨#[101,110,100,32,59,10]⟩)
abbrev z68:PV:=.lit (.string ⟨#[32,59,32]⟩)
noncomputable def cI(s:List PV)(v:PV)(k:List PV→Res):Res:=consK .fail s fun y r=>isK .fail v y (k r)
def cC(s:List PV)(k:PV→List PV→Res):Res:=consK .fail s k
def cN(s:List PV)(k:Res):Res:=nilK .fail s k
noncomputable def cL:List PV→List PV→(List PV→Res)→Res
 |[],s,k=>k s
 |v::vs,s,k=>cI s v fun s=>cL vs s k
@[simp] theorem cI_cons(y:PV)(r:List PV)(v:PV)(k:List PV→Res):cI (y::r) v k=isK .fail v y (k r):=rfl
@[simp] theorem cC_cons(y:PV)(r:List PV)(k:PV→List PV→Res):cC (y::r) k=k y r:=rfl
@[simp] theorem cI_nil(v:PV)(k:List PV→Res):cI [] v k=.fail:=rfl
@[simp] theorem cC_nil(k:PV→List PV→Res):cC [] k=.fail:=rfl
@[simp] theorem cN_nil(k:Res):cN [] k=k:=rfl
@[simp] theorem cN_cons(y:PV)(r:List PV)(k:Res):cN (y::r) k=.fail:=rfl
@[simp] theorem cL_nil(s:List PV)(k:List PV→Res):cL [] s k=k s:=rfl
@[simp] theorem cL_cons(v:PV)(vs:List PV)(y:PV)(r:List PV)(k:List PV→Res):cL (v::vs) (y::r) k=isK .fail v y (cL vs r k):=rfl
@[simp] theorem cL_out(v:PV)(vs:List PV)(k:List PV→Res):cL (v::vs) [] k=.fail:=rfl
@[simp] noncomputable def bI(b:BinOp)(t:TypeId)(u v r:PV)(k:Res):Res:=binK PG .fail b t (.pv u) (.pv v) fun w=>pvK .fail w fun y=>isK .fail r y k
@[simp] noncomputable def bV(b:BinOp)(t:TypeId)(u v:PV)(k:PV→Res):Res:=binK PG .fail b t (.pv u) (.pv v) fun w=>pvK .fail w k
@[simp] noncomputable def lV(t:TypeId)(u:PV)(k:PV→Res):Res:=lenK PG .fail t (.pv u) fun w=>pvK .fail w k
@[simp] noncomputable def xV(t:TypeId)(u i:PV)(k:List PV→Res):Res:=idxK PG .fail t (.pv u) (.pv i) fun w=>cptrK .fail w k
@[simp] noncomputable def bA(b:BinOp)(t:TypeId)(u v:PV)(k1 k2:Res):Res:=Res.alt (bI b t u v (.lit (.bool true)) k1) (bI b t u v (.lit (.bool false)) k2)
@[simp] noncomputable def cA(o:Option Rs)(m n:Nat)(k1 k2:List PV→Res):Res:=Res.alt (callK o m k1) (callK o n k2)
class R (T:Type) where
 U:Type
 TW:BinOp→TypeId→PV→PV→T→T→T
 E3:PV→PV→T→T→T
 L3:PV→PV→T→T→T
 N3:PV→PV→T→T→T
 G3:PV→PV→T→T→T
 H3:PV→PV→T→T→T
 K3:PV→PV→T→T→T
 E5:PV→PV→T→T→T
 N9:PV→PV→T→T→T
 E9:PV→PV→T→T→T
 B:BinOp→TypeId→PV→PV→(PV→T)→T
 A3:PV→PV→(PV→T)→T
 S3:PV→PV→(PV→T)→T
 L:TypeId→PV→(PV→T)→T
 I:TypeId→PV→PV→(PV→T)→T
 V:TypeId→TypeId→PV→(PV→T)→T
 S:TypeId→PV→Option AV→Option AV→(PV→T)→T
 P:TypeId→PV→PV→(PV→T)→T
 P0:TypeId→PV→PV→T→T
 M:Bool→PV→PV→(PV→T)→T
 UN:UnOp→PV→(PV→T)→T
 X:TypeId→PV→PV→U→T
 XG:TypeId→List PV→PV→U→T
 J:T→T→T
 C:Nat→List PV→Nat→U→T
 C0:Nat→List PV→U→T
 D:Nat→List PV→Nat→Nat→U→U→T
 Q0:Nat→List PV→T→T→T
 O:Nat→List PV→T
 O0:List PV→T
 Y:Nat→List PV→T
 z:T→U
 ms:List PV→U→U
 mz:List PV→T→U
 v1:(PV→U)→U
 w1:(PV→T)→U
@[simp ↓] abbrev R.v2{T:Type}[R T](k:PV→PV→R.U T):R.U T:=R.v1 fun a=>R.v1 (k a)
@[simp ↓] abbrev R.v3{T:Type}[R T](k:PV→PV→PV→R.U T):R.U T:=R.v1 fun a=>R.v2 (k a)
@[simp ↓] abbrev R.v4{T:Type}[R T](k:PV→PV→PV→PV→R.U T):R.U T:=R.v1 fun a=>R.v3 (k a)
@[simp ↓] abbrev R.v5{T:Type}[R T](k:PV→PV→PV→PV→PV→R.U T):R.U T:=R.v1 fun a=>R.v4 (k a)
@[simp ↓] abbrev R.v6{T:Type}[R T](k:PV→PV→PV→PV→PV→PV→R.U T):R.U T:=R.v1 fun a=>R.v5 (k a)
@[simp ↓] abbrev R.v7{T:Type}[R T](k:PV→PV→PV→PV→PV→PV→PV→R.U T):R.U T:=R.v1 fun a=>R.v6 (k a)
@[simp ↓] abbrev R.v8{T:Type}[R T](k:PV→PV→PV→PV→PV→PV→PV→PV→R.U T):R.U T:=R.v1 fun a=>R.v7 (k a)
@[simp ↓] abbrev R.v9{T:Type}[R T](k:PV→PV→PV→PV→PV→PV→PV→PV→PV→R.U T):R.U T:=R.v1 fun a=>R.v8 (k a)
@[simp ↓] abbrev R.v10{T:Type}[R T](k:PV→PV→PV→PV→PV→PV→PV→PV→PV→PV→R.U T):R.U T:=R.v1 fun a=>R.v9 (k a)
@[simp ↓] abbrev R.v11{T:Type}[R T](k:PV→PV→PV→PV→PV→PV→PV→PV→PV→PV→PV→R.U T):R.U T:=R.v1 fun a=>R.v10 (k a)
@[simp ↓] abbrev R.v12{T:Type}[R T](k:PV→PV→PV→PV→PV→PV→PV→PV→PV→PV→PV→PV→R.U T):R.U T:=R.v1 fun a=>R.v11 (k a)
@[simp ↓] abbrev R.v13{T:Type}[R T](k:PV→PV→PV→PV→PV→PV→PV→PV→PV→PV→PV→PV→PV→R.U T):R.U T:=R.v1 fun a=>R.v12 (k a)
@[simp ↓] abbrev R.v14{T:Type}[R T](k:PV→PV→PV→PV→PV→PV→PV→PV→PV→PV→PV→PV→PV→PV→R.U T):R.U T:=R.v1 fun a=>R.v13 (k a)
@[simp ↓] abbrev R.v15{T:Type}[R T](k:PV→PV→PV→PV→PV→PV→PV→PV→PV→PV→PV→PV→PV→PV→PV→R.U T):R.U T:=R.v1 fun a=>R.v14 (k a)
@[simp ↓] abbrev R.v16{T:Type}[R T](k:PV→PV→PV→PV→PV→PV→PV→PV→PV→PV→PV→PV→PV→PV→PV→PV→R.U T):R.U T:=R.v1 fun a=>R.v15 (k a)
@[simp ↓] abbrev R.v17{T:Type}[R T](k:PV→PV→PV→PV→PV→PV→PV→PV→PV→PV→PV→PV→PV→PV→PV→PV→PV→R.U T):R.U T:=R.v1 fun a=>R.v16 (k a)
@[simp ↓] abbrev R.v18{T:Type}[R T](k:PV→PV→PV→PV→PV→PV→PV→PV→PV→PV→PV→PV→PV→PV→PV→PV→PV→PV→R.U T):R.U T:=R.v1 fun a=>R.v17 (k a)
@[simp ↓] abbrev R.v19{T:Type}[R T](k:PV→PV→PV→PV→PV→PV→PV→PV→PV→PV→PV→PV→PV→PV→PV→PV→PV→PV→PV→R.U T):R.U T:=R.v1 fun a=>R.v18 (k a)
@[simp ↓] abbrev R.v20{T:Type}[R T](k:PV→PV→PV→PV→PV→PV→PV→PV→PV→PV→PV→PV→PV→PV→PV→PV→PV→PV→PV→PV→R.U T):R.U T:=R.v1 fun a=>R.v19 (k a)
@[simp ↓] abbrev R.v21{T:Type}[R T](k:PV→PV→PV→PV→PV→PV→PV→PV→PV→PV→PV→PV→PV→PV→PV→PV→PV→PV→PV→PV→PV→R.U T):R.U T:=R.v1 fun a=>R.v20 (k a)
@[simp ↓] abbrev R.v22{T:Type}[R T](k:PV→PV→PV→PV→PV→PV→PV→PV→PV→PV→PV→PV→PV→PV→PV→PV→PV→PV→PV→PV→PV→PV→R.U T):R.U T:=R.v1 fun a=>R.v21 (k a)
@[simp ↓] abbrev R.v23{T:Type}[R T](k:PV→PV→PV→PV→PV→PV→PV→PV→PV→PV→PV→PV→PV→PV→PV→PV→PV→PV→PV→PV→PV→PV→PV→R.U T):R.U T:=R.v1 fun a=>R.v22 (k a)
@[simp ↓] abbrev R.w2{T:Type}[R T](k:PV→PV→T):R.U T:=R.v1 fun a=>R.w1 (k a)
@[simp ↓] abbrev R.w3{T:Type}[R T](k:PV→PV→PV→T):R.U T:=R.v1 fun a=>R.w2 (k a)
@[simp ↓] abbrev R.w4{T:Type}[R T](k:PV→PV→PV→PV→T):R.U T:=R.v1 fun a=>R.w3 (k a)
@[simp ↓] abbrev R.w5{T:Type}[R T](k:PV→PV→PV→PV→PV→T):R.U T:=R.v1 fun a=>R.w4 (k a)
@[simp ↓] abbrev R.w6{T:Type}[R T](k:PV→PV→PV→PV→PV→PV→T):R.U T:=R.v1 fun a=>R.w5 (k a)
@[simp ↓] abbrev R.w7{T:Type}[R T](k:PV→PV→PV→PV→PV→PV→PV→T):R.U T:=R.v1 fun a=>R.w6 (k a)
@[simp ↓] abbrev R.w8{T:Type}[R T](k:PV→PV→PV→PV→PV→PV→PV→PV→T):R.U T:=R.v1 fun a=>R.w7 (k a)
@[simp ↓] abbrev R.w9{T:Type}[R T](k:PV→PV→PV→PV→PV→PV→PV→PV→PV→T):R.U T:=R.v1 fun a=>R.w8 (k a)
@[simp ↓] abbrev R.w10{T:Type}[R T](k:PV→PV→PV→PV→PV→PV→PV→PV→PV→PV→T):R.U T:=R.v1 fun a=>R.w9 (k a)
@[simp ↓] abbrev R.w11{T:Type}[R T](k:PV→PV→PV→PV→PV→PV→PV→PV→PV→PV→PV→T):R.U T:=R.v1 fun a=>R.w10 (k a)
@[simp ↓] abbrev R.w12{T:Type}[R T](k:PV→PV→PV→PV→PV→PV→PV→PV→PV→PV→PV→PV→T):R.U T:=R.v1 fun a=>R.w11 (k a)
@[simp ↓] abbrev R.w13{T:Type}[R T](k:PV→PV→PV→PV→PV→PV→PV→PV→PV→PV→PV→PV→PV→T):R.U T:=R.v1 fun a=>R.w12 (k a)
@[simp ↓] abbrev R.w14{T:Type}[R T](k:PV→PV→PV→PV→PV→PV→PV→PV→PV→PV→PV→PV→PV→PV→T):R.U T:=R.v1 fun a=>R.w13 (k a)
@[simp ↓] abbrev R.w15{T:Type}[R T](k:PV→PV→PV→PV→PV→PV→PV→PV→PV→PV→PV→PV→PV→PV→PV→T):R.U T:=R.v1 fun a=>R.w14 (k a)
@[simp ↓] abbrev R.w16{T:Type}[R T](k:PV→PV→PV→PV→PV→PV→PV→PV→PV→PV→PV→PV→PV→PV→PV→PV→T):R.U T:=R.v1 fun a=>R.w15 (k a)
abbrev Rf:Type:=Nat→Et
abbrev Ru:Type:=Nat→List PV×Et
abbrev Sm:Type:=(Q→Option Rs)→Res
abbrev Su:Type:=(Q→Option Rs)→List PV→Res
instance:R Rf where
 U:=Ru
 TW:=fun b t u v x y n=>.alt (.say (.bin b t (.pv u) (.pv v) (.pv bt)) (x n)) (.say (.bin b t (.pv u) (.pv v) (.pv bf)) (y n))
 E3:=fun u v x y n=>.alt (.say (.bin .eql 3 (.pv u) (.pv v) (.pv bt)) (x n)) (.say (.bin .eql 3 (.pv u) (.pv v) (.pv bf)) (y n))
 L3:=fun u v x y n=>.alt (.say (.bin .lss 3 (.pv u) (.pv v) (.pv bt)) (x n)) (.say (.bin .lss 3 (.pv u) (.pv v) (.pv bf)) (y n))
 N3:=fun u v x y n=>.alt (.say (.bin .neq 3 (.pv u) (.pv v) (.pv bt)) (x n)) (.say (.bin .neq 3 (.pv u) (.pv v) (.pv bf)) (y n))
 G3:=fun u v x y n=>.alt (.say (.bin .gtr 3 (.pv u) (.pv v) (.pv bt)) (x n)) (.say (.bin .gtr 3 (.pv u) (.pv v) (.pv bf)) (y n))
 H3:=fun u v x y n=>.alt (.say (.bin .geq 3 (.pv u) (.pv v) (.pv bt)) (x n)) (.say (.bin .geq 3 (.pv u) (.pv v) (.pv bf)) (y n))
 K3:=fun u v x y n=>.alt (.say (.bin .leq 3 (.pv u) (.pv v) (.pv bt)) (x n)) (.say (.bin .leq 3 (.pv u) (.pv v) (.pv bf)) (y n))
 E5:=fun u v x y n=>.alt (.say (.bin .eql 5 (.pv u) (.pv v) (.pv bt)) (x n)) (.say (.bin .eql 5 (.pv u) (.pv v) (.pv bf)) (y n))
 N9:=fun u v x y n=>.alt (.say (.bin .neq 9 (.pv u) (.pv v) (.pv bt)) (x n)) (.say (.bin .neq 9 (.pv u) (.pv v) (.pv bf)) (y n))
 E9:=fun u v x y n=>.alt (.say (.bin .eql 9 (.pv u) (.pv v) (.pv bt)) (x n)) (.say (.bin .eql 9 (.pv u) (.pv v) (.pv bf)) (y n))
 B:=fun b t u v k n=>.say (.bin b t (.pv u) (.pv v) (.pv (.sym n))) (k (.sym n) (n+1))
 A3:=fun u v k n=>.say (.bin .add 3 (.pv u) (.pv v) (.pv (.sym n))) (k (.sym n) (n+1))
 S3:=fun u v k n=>.say (.bin .sub 3 (.pv u) (.pv v) (.pv (.sym n))) (k (.sym n) (n+1))
 L:=fun t u k n=>.say (.len t (.pv u) (.pv (.sym n))) (k (.sym n) (n+1))
 I:=fun t u i k n=>.say (.ind t (.pv u) (.pv i) (.pv (.sym n))) (k (.sym n) (n+1))
 V:=fun s t u k n=>.say (.conv s t (.pv u) (.pv (.sym n))) (k (.sym n) (n+1))
 S:=fun t u a b k n=>.say (.slc t (.pv u) a b (.pv (.sym n))) (k (.sym n) (n+1))
 P:=fun t u x k n=>.say (.app t (.pv u) (.pv x) n) (k (.sym n) (n+1))
 P0:=fun t u x y n=>.say (.app0 t (.pv u) (.pv x)) (y n)
 M:=fun t u x k n=>.say (.mx t (.pv u) (.pv x) (.pv (.sym n))) (k (.sym n) (n+1))
 UN:=fun t u k n=>.say (.un t (.pv u) (.pv (.sym n))) (k (.sym n) (n+1))
 X:=fun t u i k n=>.say (.idx t (.pv u) (.pv i) (.cptr (k n).1)) (k n).2
 XG:=fun t u i k n=>.say (.idx t (.cptr u) (.pv i) (.cptr (k n).1)) (k n).2
 J:=fun x y n=>.alt (x n) (y n)
 C:=fun q p s k n=>.call q p s (k n).1 (k n).2
 C0:=fun q p k n=>.call q p 0 (k n).1 (k n).2
 D:=fun q p s t k l n=>.alt (.call q p s (k n).1 (k n).2) (.call q p t (l n).1 (l n).2)
 Q0:=fun q p x y n=>.alt (.call q p 0 [bt] (x n)) (.call q p 0 [bf] (y n))
 O:=fun s p n=>.out s p
 O0:=fun p n=>.out 0 p
 Y:=fun q p n=>.goto q p
 z:=fun x n=>([],x n)
 ms:=fun p k n=>(p++(k n).1,(k n).2)
 mz:=fun p x n=>(p,x n)
 v1:=fun k n=>([.sym n]++(k (.sym n) (n+1)).1,(k (.sym n) (n+1)).2)
 w1:=fun k n=>([.sym n],k (.sym n) (n+1))
noncomputable instance:R Sm where
 U:=Su
 TW:=fun b t u v x y O=>bA b t u v (x O) (y O)
 E3:=fun u v x y O=>bA .eql 3 u v (x O) (y O)
 L3:=fun u v x y O=>bA .lss 3 u v (x O) (y O)
 N3:=fun u v x y O=>bA .neq 3 u v (x O) (y O)
 G3:=fun u v x y O=>bA .gtr 3 u v (x O) (y O)
 H3:=fun u v x y O=>bA .geq 3 u v (x O) (y O)
 K3:=fun u v x y O=>bA .leq 3 u v (x O) (y O)
 E5:=fun u v x y O=>bA .eql 5 u v (x O) (y O)
 N9:=fun u v x y O=>bA .neq 9 u v (x O) (y O)
 E9:=fun u v x y O=>bA .eql 9 u v (x O) (y O)
 B:=fun b t u v k O=>bV b t u v fun y=>k y O
 A3:=fun u v k O=>bV .add 3 u v fun y=>k y O
 S3:=fun u v k O=>bV .sub 3 u v fun y=>k y O
 L:=fun t u k O=>lV t u fun y=>k y O
 I:=fun t u i k O=>indK PG .fail t (.pv u) (.pv i) fun w=>pvK .fail w fun y=>k y O
 V:=fun s t u k O=>convK PG .fail s t (.pv u) fun w=>pvK .fail w fun y=>k y O
 S:=fun t u a b k O=>slcK PG .fail t (.pv u) a b fun w=>pvK .fail w fun y=>k y O
 P:=fun t u x k O=>appK PG .fail t (.pv u) (.pv x) fun y=>k y O
 P0:=fun t u x y O=>app0K PG .fail t (.pv u) (.pv x) (y O)
 M:=fun t u x k O=>mxK PG .fail t (.pv u) (.pv x) fun w=>pvK .fail w fun y=>k y O
 UN:=fun t u k O=>unK PG .fail t (.pv u) fun w=>pvK .fail w fun y=>k y O
 X:=fun t u i k O=>xV t u i fun s=>k O s
 XG:=fun t u i k O=>idxK PG .fail t (.cptr u) (.pv i) fun w=>cptrK .fail w fun s=>k O s
 J:=fun x y O=>Res.alt (x O) (y O)
 C:=fun q p s k O=>callK (O ⟨q,p⟩) s fun s=>k O s
 C0:=fun q p k O=>callK (O ⟨q,p⟩) 0 fun s=>k O s
 D:=fun q p s t k l O=>cA (O ⟨q,p⟩) s t (fun s=>k O s) fun s=>l O s
 Q0:=fun q p x y O=>cA (O ⟨q,p⟩) 0 0 (fun s=>cI s bt fun s=>cN s (x O)) fun s=>cI s bf fun s=>cN s (y O)
 O:=fun s p O=>.ok (s,p)
 O0:=fun p O=>.ok (0,p)
 Y:=fun q p O=>passK (O ⟨q,p⟩)
 z:=fun x O s=>cN s (x O)
 ms:=fun p k O s=>cL p s (k O)
 mz:=fun p x O s=>cL p s fun s=>cN s (x O)
 v1:=fun k O s=>cC s fun av s=>k av O s
 w1:=fun k O s=>cC s fun av s=>cN s (k av O)
@[simp ↓] theorem m_TW{b:BinOp}{t:TypeId}{u v:PV}{x y:Sm}{O}:R.TW (T:=Sm) b t u v x y O=bA b t u v (x O) (y O):=rfl
@[simp ↓] theorem m_E3{u v:PV}{x y:Sm}{O}:R.E3 (T:=Sm) u v x y O=bA .eql 3 u v (x O) (y O):=rfl
@[simp ↓] theorem m_L3{u v:PV}{x y:Sm}{O}:R.L3 (T:=Sm) u v x y O=bA .lss 3 u v (x O) (y O):=rfl
@[simp ↓] theorem m_N3{u v:PV}{x y:Sm}{O}:R.N3 (T:=Sm) u v x y O=bA .neq 3 u v (x O) (y O):=rfl
@[simp ↓] theorem m_G3{u v:PV}{x y:Sm}{O}:R.G3 (T:=Sm) u v x y O=bA .gtr 3 u v (x O) (y O):=rfl
@[simp ↓] theorem m_H3{u v:PV}{x y:Sm}{O}:R.H3 (T:=Sm) u v x y O=bA .geq 3 u v (x O) (y O):=rfl
@[simp ↓] theorem m_K3{u v:PV}{x y:Sm}{O}:R.K3 (T:=Sm) u v x y O=bA .leq 3 u v (x O) (y O):=rfl
@[simp ↓] theorem m_E5{u v:PV}{x y:Sm}{O}:R.E5 (T:=Sm) u v x y O=bA .eql 5 u v (x O) (y O):=rfl
@[simp ↓] theorem m_N9{u v:PV}{x y:Sm}{O}:R.N9 (T:=Sm) u v x y O=bA .neq 9 u v (x O) (y O):=rfl
@[simp ↓] theorem m_E9{u v:PV}{x y:Sm}{O}:R.E9 (T:=Sm) u v x y O=bA .eql 9 u v (x O) (y O):=rfl
@[simp ↓] theorem m_B{b:BinOp}{t:TypeId}{u v:PV}{k:PV→Sm}{O}:R.B (T:=Sm) b t u v k O=bV b t u v fun y=>k y O:=rfl
@[simp ↓] theorem m_A3{u v:PV}{k:PV→Sm}{O}:R.A3 (T:=Sm) u v k O=bV .add 3 u v fun y=>k y O:=rfl
@[simp ↓] theorem m_S3{u v:PV}{k:PV→Sm}{O}:R.S3 (T:=Sm) u v k O=bV .sub 3 u v fun y=>k y O:=rfl
@[simp ↓] theorem m_L{t:TypeId}{u:PV}{k:PV→Sm}{O}:R.L (T:=Sm) t u k O=lV t u fun y=>k y O:=rfl
@[simp ↓] theorem m_I{t:TypeId}{u i:PV}{k:PV→Sm}{O}:R.I (T:=Sm) t u i k O=indK PG .fail t (.pv u) (.pv i) fun w=>pvK .fail w fun y=>k y O:=rfl
@[simp ↓] theorem m_V{s t:TypeId}{u:PV}{k:PV→Sm}{O}:R.V (T:=Sm) s t u k O=convK PG .fail s t (.pv u) fun w=>pvK .fail w fun y=>k y O:=rfl
@[simp ↓] theorem m_S{t:TypeId}{u:PV}{a b:Option AV}{k:PV→Sm}{O}:R.S (T:=Sm) t u a b k O=slcK PG .fail t (.pv u) a b fun w=>pvK .fail w fun y=>k y O:=rfl
@[simp ↓] theorem m_P{t:TypeId}{u x:PV}{k:PV→Sm}{O}:R.P (T:=Sm) t u x k O=appK PG .fail t (.pv u) (.pv x) fun y=>k y O:=rfl
@[simp ↓] theorem m_P0{t:TypeId}{u x:PV}{y:Sm}{O}:R.P0 (T:=Sm) t u x y O=app0K PG .fail t (.pv u) (.pv x) (y O):=rfl
@[simp ↓] theorem m_M{t:Bool}{u x:PV}{k:PV→Sm}{O}:R.M (T:=Sm) t u x k O=mxK PG .fail t (.pv u) (.pv x) fun w=>pvK .fail w fun y=>k y O:=rfl
@[simp ↓] theorem m_UN{t:UnOp}{u:PV}{k:PV→Sm}{O}:R.UN (T:=Sm) t u k O=unK PG .fail t (.pv u) fun w=>pvK .fail w fun y=>k y O:=rfl
@[simp ↓] theorem m_X{t:TypeId}{u i:PV}{k:Su}{O}:R.X (T:=Sm) t u i k O=xV t u i fun s=>k O s:=rfl
@[simp ↓] theorem m_XG{t:TypeId}{u:List PV}{i:PV}{k:Su}{O}:R.XG (T:=Sm) t u i k O=idxK PG .fail t (.cptr u) (.pv i) fun w=>cptrK .fail w fun s=>k O s:=rfl
@[simp ↓] theorem m_J{x y:Sm}{O}:R.J (T:=Sm) x y O=Res.alt (x O) (y O):=rfl
@[simp ↓] theorem m_C{q:Nat}{p:List PV}{s:Nat}{k:Su}{O}:R.C (T:=Sm) q p s k O=callK (O ⟨q,p⟩) s fun s=>k O s:=rfl
@[simp ↓] theorem m_C0{q:Nat}{p:List PV}{k:Su}{O}:R.C0 (T:=Sm) q p k O=callK (O ⟨q,p⟩) 0 fun s=>k O s:=rfl
@[simp ↓] theorem m_D{q:Nat}{p:List PV}{s t:Nat}{k l:Su}{O}:R.D (T:=Sm) q p s t k l O=cA (O ⟨q,p⟩) s t (fun s=>k O s) fun s=>l O s:=rfl
@[simp ↓] theorem m_Q0{q:Nat}{p:List PV}{x y:Sm}{O}:R.Q0 (T:=Sm) q p x y O=cA (O ⟨q,p⟩) 0 0 (fun s=>cI s bt fun s=>cN s (x O)) fun s=>cI s bf fun s=>cN s (y O):=rfl
@[simp ↓] theorem m_O{s:Nat}{p:List PV}{O}:R.O (T:=Sm) s p O=.ok (s,p):=rfl
@[simp ↓] theorem m_O0{p:List PV}{O}:R.O0 (T:=Sm) p O=.ok (0,p):=rfl
@[simp ↓] theorem m_Y{q:Nat}{p:List PV}{O}:R.Y (T:=Sm) q p O=passK (O ⟨q,p⟩):=rfl
@[simp ↓] theorem m_z{x:Sm}{O}{s:List PV}:R.z (T:=Sm) x O s=cN s (x O):=rfl
@[simp ↓] theorem m_ms{p:List PV}{k:Su}{O}{s:List PV}:R.ms (T:=Sm) p k O s=cL p s (k O):=rfl
@[simp ↓] theorem m_mz{p:List PV}{x:Sm}{O}{s:List PV}:R.mz (T:=Sm) p x O s=cL p s fun s=>cN s (x O):=rfl
@[simp ↓] theorem m_v1{k:PV→Su}{O}{s:List PV}:R.v1 (T:=Sm) k O s=cC s fun av s=>k av O s:=rfl
@[simp ↓] theorem m_w1{k:PV→Sm}{O}{s:List PV}:R.w1 (T:=Sm) k O s=cC s fun av s=>cN s (k av O):=rfl
section
open R
variable{T:Type}[R T]
def g12(a b c d e:PV):T:=J (C 1 [i0,a,b,c,d,e] 1 (mz [a,b,c,d,e] (E3 a i3 (Q0 239 [b] (TW .eql 2 c i0 (O0 [bt]) (O0 [bf])) (O0 [bf])) (L 34 d fun f=>G3 f i0 (O0 [bf]) (E3 a i1 (E9 b e0 (TW .eql 2 c i0 (O0 [bt]) (O0 [bf])) (O0 [bf])) (E3 a i2 (Q0 240 [b] (TW .eql 2 c i0 (O0 [bt]) (O0 [bf])) (O0 [bf])) (E3 a i4 (E9 b e0 (TW .geq 2 c i0 (TW .leq 2 c (iv 4611686018427387903) (O0 [bt]) (O0 [bf])) (O0 [bf])) (O0 [bf])) (O0 [bf])))))))) (D 1 [i0,a,b,c,d,e] 0 0 (mz [a,b,c,d,e,bt] (O0 [bt])) (mz [a,b,c,d,e,bf] (O0 [bf])))
def g12b0a(a b c d e f:PV):T:=L 34 e fun g=>L3 a g (X 34 e a (w5 fun h i j k l=>Q0 0 [h,i,j,k,l] (A3 a i1 fun m=>Y 1 [m,b,c,d,e,f]) (O0 [b,c,d,e,f,bf]))) (O 1 [b,c,d,e,f])
def g13(a b c d e:PV):T:=E3 a i1 (O0 [z0]) (E3 a i4 (C0 17 [c] (w1 fun f=>O0 [f])) (C0 3 [i0,b,a,b,c,d,e] (ms [a,b,c,d,e] (w1 fun f=>O0 [f]))))
def g13b0a(a b c d e f g:PV):T:=L 34 f fun h=>L3 a h (X 34 f a (w5 fun i j k l m=>L 34 l fun n=>G3 n i0 (B .add 9 b z1 fun o=>C0 2 [i,j,k,l,m] (w1 fun p=>B .add 9 o p fun q=>B .add 9 q z2 fun r=>A3 a i1 fun s=>Y 3 [s,r,c,d,e,f,g])) (B .add 9 b z3 fun o=>C0 2 [i,j,k,l,m] (w1 fun p=>B .add 9 o p fun q=>A3 a i1 fun r=>Y 3 [r,q,c,d,e,f,g])))) (O0 [c,d,e,f,g,b])
def g14(a b c d:PV):T:=J (C 5 [i0,a,b,c,d] 1 (mz [a,b,c,d] (N3 c i0 (O0 [bf]) (E3 a i1 (Q0 240 [b] (L 22 d fun e=>E3 e i0 (O0 [bt]) (O0 [bf])) (O0 [bf])) (E3 a i3 (Q0 239 [b] (O0 [bt]) (E9 b z4 (L 22 d fun e=>E3 e i2 (O0 [bt]) (O0 [bf])) (O0 [bf]))) (O0 [bf])))))) (D 5 [i0,a,b,c,d] 0 0 (mz [a,b,c,d,bt] (O0 [bt])) (mz [a,b,c,d,bf] (O0 [bf])))
def g14b0a(a b c d e:PV):T:=L 22 e fun f=>L3 a f (X 22 e a (w4 fun g h i j=>Q0 4 [g,h,i,j] (A3 a i1 fun k=>Y 5 [k,b,c,d,e]) (O0 [b,c,d,e,bf]))) (O 1 [b,c,d,e])
def g15(a b c d:PV):T:=E9 b z4 (X 22 d i0 (w4 fun e f g h=>E9 f z4 (X 22 d i1 (w4 fun i j k l=>C0 13 [e,f,g,h] (w1 fun m=>B .add 9 m z5 fun n=>C0 6 [i,j,k,l] (w1 fun o=>B .add 9 n o fun p=>O0 [p])))) (X 22 d i1 (w4 fun i j k l=>C0 6 [e,f,g,h] (w1 fun m=>B .add 9 m z5 fun n=>C0 6 [i,j,k,l] (w1 fun o=>B .add 9 n o fun p=>O0 [p])))))) (C0 7 [i0,b,a,b,c,d] (ms [a,b,c,d] (w1 fun e=>O0 [e])))
def g15b0a(a b c d e f:PV):T:=L 22 f fun g=>L3 a g (B .add 9 b z3 fun h=>X 22 f a (w4 fun i j k l=>C0 13 [i,j,k,l] (w1 fun m=>B .add 9 h m fun n=>A3 a i1 fun o=>Y 7 [o,n,c,d,e,f]))) (O0 [c,d,e,f,b])
def g16(a b c d e:PV):T:=Q0 12 [a,b,c,d,e] (E3 a i1 (O0 [z0]) (E3 a i2 (O0 [b]) (E3 a i4 (C0 241 [c] (w1 fun f=>O0 [f])) (L 34 d fun f=>C0 9 [i0,f,d,b] (w1 fun g=>O0 [g]))))) (O0 [e0])
def g16b1a(a b c d:PV):T:=L3 a b (X 34 c a (w5 fun e f g h i=>C0 8 [e,f,g,h,i] (w1 fun j=>L 34 h fun k=>G3 k i0 (B .add 9 z6 j fun l=>B .add 9 l z2 fun m=>B .add 9 z3 m fun n=>B .add 9 d n fun o=>A3 a i1 fun p=>Y 9 [p,b,c,o]) (B .add 9 z3 j fun l=>B .add 9 d l fun m=>A3 a i1 fun n=>Y 9 [n,b,c,m])))) (O0 [d])
def g17(a b c d:PV):T:=Q0 11 [a,b,c,d] (C0 14 [a,b,c,d] (w1 fun e=>O0 [e])) (O0 [e0])
def g29(a b c d:PV):T:=N3 c i0 (O0 [bf]) (Q0 24 [d] (E3 a i1 (Q0 238 [b] (L 22 d fun e=>E3 e i0 (O0 [bt]) (O0 [bf])) (O0 [bf])) (E3 a i3 (Q0 237 [b] (O0 [bt]) (E9 b z4 (L 22 d fun e=>E3 e i2 (O0 [bt]) (O0 [bf])) (O0 [bf]))) (O0 [bf]))) (O0 [bf]))
def g32(a b c d e:PV):T:=E3 a i1 (E9 b e0 (TW .eql 2 c i0 (L 34 d fun f=>E3 f i0 (O0 [bt]) (O0 [bf])) (O0 [bf])) (O0 [bf])) (E3 a i2 (Q0 238 [b] (TW .eql 2 c i0 (L 34 d fun f=>E3 f i0 (O0 [bt]) (O0 [bf])) (O0 [bf])) (O0 [bf])) (E3 a i4 (E9 b e0 (TW .geq 2 c i0 (TW .leq 2 c (iv 4611686018427387903) (L 34 d fun f=>E3 f i0 (O0 [bt]) (O0 [bf])) (O0 [bf])) (O0 [bf])) (O0 [bf])) (E3 a i3 (Q0 237 [b] (TW .eql 2 c i0 (Q0 26 [d] (O0 [bt]) (O0 [bf])) (O0 [bf])) (O0 [bf])) (O0 [bf]))))
def g42(a b c d:PV):T:=L 22 d fun e=>E3 e i0 (O0 [b]) (C0 6 [a,b,c,d] (w1 fun f=>B .add 9 z6 f fun g=>B .add 9 g z2 fun h=>O0 [h]))
def g44(a b c d:PV):T:=E9 b z4 (X 22 d i0 (w4 fun e f g h=>C0 14 [e,f,g,h] (w1 fun i=>E9 f z4 (B .add 9 z6 i fun j=>B .add 9 j z2 fun k=>B .add 9 k z5 fun l=>X 22 d i1 (w4 fun m n o p=>C0 14 [m,n,o,p] (w1 fun q=>B .add 9 l q fun r=>O0 [r]))) (B .add 9 i z5 fun j=>X 22 d i1 (w4 fun k l m n=>C0 14 [k,l,m,n] (w1 fun o=>B .add 9 j o fun p=>O0 [p])))))) (L 22 d fun e=>C0 15 [i0,e,d,b] (w1 fun f=>O0 [f]))
def g44b0a(a b c d:PV):T:=L3 a b (X 22 c a (w4 fun e f g h=>C0 16 [e,f,g,h] (w1 fun i=>B .add 9 z3 i fun j=>B .add 9 d j fun k=>A3 a i1 fun l=>Y 15 [l,b,c,k]))) (O0 [d])
def g88(a b c d:PV):T:=L 22 d fun e=>E3 e i0 (C0 14 [a,b,c,d] (w1 fun f=>O0 [f])) (C0 14 [a,b,c,d] (w1 fun f=>B .add 9 z6 f fun g=>B .add 9 g z2 fun h=>O0 [h]))
def g41(a:PV):T:=C0 18 [a] (w1 fun b=>TW .lss 2 b i0 (C0 21 [b] (w1 fun c=>C0 19 [c] (w1 fun d=>B .add 9 z7 d fun e=>O0 [e]))) (C0 21 [b] (w1 fun c=>C0 19 [c] (w1 fun d=>O0 [d]))))
def g84(a:PV):T:=C0 23 [a] (w1 fun b=>C0 22 [b] (w1 fun c=>O0 [c]))
def g85(a:PV):T:=C0 20 [a,e0] (w2 fun b c=>B .add 123 (.lit (.int .u64 48)) b fun d=>V 123 5 d fun e=>V 126 9 (.rows [[e]]) fun f=>B .add 9 f c fun g=>O0 [g])
def g85b0a(a b:PV):T:=TW .gtr 123 a (.lit (.int .u64 9)) (B .rem 123 a (.lit (.int .u64 10)) fun c=>B .add 123 (.lit (.int .u64 48)) c fun d=>V 123 5 d fun e=>V 126 9 (.rows [[e]]) fun f=>B .add 9 f b fun g=>B .quo 123 a (.lit (.int .u64 10)) fun h=>Y 20 [h,g]) (O0 [a,b])
def g86(a:PV):T:=TW .lss 2 a i0 (B .add 2 a i1 fun b=>UN .neg b fun c=>V 2 123 c fun d=>B .add 123 d (.lit (.int .u64 1)) fun e=>O0 [e]) (V 2 123 a fun b=>O0 [b])
def g127(a:PV):T:=TW .geq 123 a (.lit (.int .u64 4611686018427387904)) (B .sub 123 a (.lit (.int .u64 4611686018427387904)) fun b=>V 123 2 b fun c=>B .sub 2 c (iv 4611686018427387904) fun d=>O0 [d]) (V 123 2 a fun b=>O0 [b])
def g128(a:PV):T:=V 2 123 a fun b=>B .rem 123 b (.lit (.int .u64 9223372036854775808)) fun c=>O0 [c]
def g74a(a:PV):T:=L 22 a fun b=>J (C 25 [i0,b,a] 1 (z (O0 [bt]))) (Q0 25 [i0,b,a] (O0 [bt]) (O0 [bf]))
def g74ab0a(a b c:PV):T:=L3 a b (X 22 c a (w4 fun d e f g=>Q0 11 [d,e,f,g] (A3 a i1 fun h=>Y 25 [h,b,c]) (O0 [bf]))) (O 1 [])
def g75a(a:PV):T:=L 34 a fun b=>J (C 27 [i0,b,a] 1 (z (O0 [bt]))) (Q0 27 [i0,b,a] (O0 [bt]) (O0 [bf]))
def g75ab0a(a b c:PV):T:=L3 a b (X 34 c a (w5 fun d e f g h=>Q0 12 [d,e,f,g,h] (A3 a i1 fun i=>Y 27 [i,b,c]) (O0 [bf]))) (O 1 [])
def g9(a b c d e f g h i j k:PV):T:=L 25 h fun l=>C0 29 [a,b,c,d,e,f,g,h,i,j,k] (w1 fun m=>N3 m l (O0 [bf]) (Q0 30 [a,b,c,d,e,f,g,h,i,j,k] (L 27 j fun n=>G3 n i0 (E3 a i7 (L 26 i fun o=>G3 o i0 (E3 a i8 (E3 a (iv 12) (Q0 11 [d,e,f,g] (N3 a (iv 12) (Q0 31 [d,e,f,g] (Q0 34 [h] (Q0 36 [j] (Q0 38 [i] (O0 [bt]) (O0 [bf])) (O0 [bf])) (O0 [bf])) (O0 [bf])) (Q0 34 [h] (Q0 36 [j] (Q0 38 [i] (O0 [bt]) (O0 [bf])) (O0 [bf])) (O0 [bf]))) (O0 [bf])) (N3 a (iv 12) (Q0 31 [d,e,f,g] (Q0 34 [h] (Q0 36 [j] (Q0 38 [i] (O0 [bt]) (O0 [bf])) (O0 [bf])) (O0 [bf])) (O0 [bf])) (Q0 34 [h] (Q0 36 [j] (Q0 38 [i] (O0 [bt]) (O0 [bf])) (O0 [bf])) (O0 [bf])))) (O0 [bf])) (E3 a i8 (O0 [bf]) (E3 a (iv 12) (Q0 11 [d,e,f,g] (N3 a (iv 12) (Q0 31 [d,e,f,g] (Q0 34 [h] (Q0 36 [j] (Q0 38 [i] (O0 [bt]) (O0 [bf])) (O0 [bf])) (O0 [bf])) (O0 [bf])) (Q0 34 [h] (Q0 36 [j] (Q0 38 [i] (O0 [bt]) (O0 [bf])) (O0 [bf])) (O0 [bf]))) (O0 [bf])) (N3 a (iv 12) (Q0 31 [d,e,f,g] (Q0 34 [h] (Q0 36 [j] (Q0 38 [i] (O0 [bt]) (O0 [bf])) (O0 [bf])) (O0 [bf])) (O0 [bf])) (Q0 34 [h] (Q0 36 [j] (Q0 38 [i] (O0 [bt]) (O0 [bf])) (O0 [bf])) (O0 [bf])))))) (O0 [bf])) (E3 a i7 (O0 [bf]) (L 26 i fun o=>G3 o i0 (E3 a i8 (E3 a (iv 12) (Q0 11 [d,e,f,g] (N3 a (iv 12) (Q0 31 [d,e,f,g] (Q0 34 [h] (Q0 36 [j] (Q0 38 [i] (O0 [bt]) (O0 [bf])) (O0 [bf])) (O0 [bf])) (O0 [bf])) (Q0 34 [h] (Q0 36 [j] (Q0 38 [i] (O0 [bt]) (O0 [bf])) (O0 [bf])) (O0 [bf]))) (O0 [bf])) (N3 a (iv 12) (Q0 31 [d,e,f,g] (Q0 34 [h] (Q0 36 [j] (Q0 38 [i] (O0 [bt]) (O0 [bf])) (O0 [bf])) (O0 [bf])) (O0 [bf])) (Q0 34 [h] (Q0 36 [j] (Q0 38 [i] (O0 [bt]) (O0 [bf])) (O0 [bf])) (O0 [bf])))) (O0 [bf])) (E3 a i8 (O0 [bf]) (E3 a (iv 12) (Q0 11 [d,e,f,g] (N3 a (iv 12) (Q0 31 [d,e,f,g] (Q0 34 [h] (Q0 36 [j] (Q0 38 [i] (O0 [bt]) (O0 [bf])) (O0 [bf])) (O0 [bf])) (O0 [bf])) (Q0 34 [h] (Q0 36 [j] (Q0 38 [i] (O0 [bt]) (O0 [bf])) (O0 [bf])) (O0 [bf]))) (O0 [bf])) (N3 a (iv 12) (Q0 31 [d,e,f,g] (Q0 34 [h] (Q0 36 [j] (Q0 38 [i] (O0 [bt]) (O0 [bf])) (O0 [bf])) (O0 [bf])) (O0 [bf])) (Q0 34 [h] (Q0 36 [j] (Q0 38 [i] (O0 [bt]) (O0 [bf])) (O0 [bf])) (O0 [bf])))))))) (O0 [bf])))
def g27(a b c d e f g h i j k:PV):T:=E3 a i1 (O0 [i0]) (E3 a i2 (O0 [i0]) (E3 a i3 (O0 [i0]) (E3 a i4 (O0 [i0]) (E3 a i6 (O0 [i1]) (E3 a i7 (O0 [i1]) (E3 a i8 (O0 [i1]) (E3 a (iv 12) (O0 [i1]) (E3 a i5 (O0 [i2]) (E3 a (iv 10) (O0 [i2]) (E3 a (iv 11) (O0 [i2]) (E3 a i9 (O0 [i3]) (O0 [(iv (-1))]))))))))))))
def g28(a b c d e f g h i j k:PV):T:=E3 a i1 (E9 b e0 (TW .geq 2 c i0 (TW .leq 2 c (iv 4611686018427387903) (O0 [bt]) (O0 [bf])) (O0 [bf])) (O0 [bf])) (E3 a i2 (TW .eql 2 c i0 (Q0 244 [b] (O0 [bt]) (O0 [bf])) (O0 [bf])) (E3 a i3 (TW .eql 2 c i0 (Q0 33 [b] (O0 [bt]) (O0 [bf])) (O0 [bf])) (E3 a i4 (TW .eql 2 c i0 (Q0 237 [b] (O0 [bt]) (O0 [bf])) (O0 [bf])) (E3 a i6 (TW .eql 2 c i0 (Q0 238 [b] (O0 [bt]) (O0 [bf])) (O0 [bf])) (E3 a i7 (TW .eql 2 c i0 (E9 b e0 (O0 [bt]) (O0 [bf])) (TW .eql 2 c i1 (E9 b e0 (O0 [bt]) (O0 [bf])) (O0 [bf]))) (TW .eql 2 c i0 (E9 b e0 (O0 [bt]) (O0 [bf])) (O0 [bf])))))))
def g30(a b c d:PV):T:=E3 a i0 (E9 b e0 (E3 c i0 (L 22 d fun e=>E3 e i0 (O0 [bt]) (O0 [bf])) (O0 [bf])) (O0 [bf])) (O0 [bf])
def g35(a b c d e f g h i j k l m:PV):T:=Q0 33 [a] (Q0 28 [b,c,d,e,f,g,h,i,j,k,l] (O0 [bt]) (O0 [bf])) (O0 [bf])
def g71(a:PV):T:=Q0 238 [a] (O0 [bt]) (Q0 242 [a] (O0 [bt]) (O0 [bf]))
def g33a(a:PV):T:=L 25 a fun b=>J (C 35 [i0,b,a] 1 (z (O0 [bt]))) (Q0 35 [i0,b,a] (O0 [bt]) (O0 [bf]))
def g33ab0a(a b c:PV):T:=L3 a b (X 25 c a (w11 fun d e f g h i j k l m n=>Q0 28 [d,e,f,g,h,i,j,k,l,m,n] (A3 a i1 fun o=>Y 35 [o,b,c]) (O0 [bf]))) (O 1 [])
def g34a(a:PV):T:=L 27 a fun b=>J (C 37 [i0,b,a] 1 (z (O0 [bt]))) (Q0 37 [i0,b,a] (O0 [bt]) (O0 [bf]))
def g34ab0a(a b c:PV):T:=L3 a b (X 27 c a (w13 fun d e f g h i j k l m n o p=>Q0 32 [d,e,f,g,h,i,j,k,l,m,n,o,p] (A3 a i1 fun q=>Y 37 [q,b,c]) (O0 [bf]))) (O 1 [])
def g36a(a:PV):T:=L 26 a fun b=>J (C 39 [i0,b,a] 1 (z (O0 [bt]))) (Q0 39 [i0,b,a] (O0 [bt]) (O0 [bf]))
def g36ab0a(a b c:PV):T:=L3 a b (X 26 c a (w16 fun d e f g h i j k l m n o p q r s=>Q0 156 [d,e,f,g,h,i,j,k,l,m,n,o,p,q,r,s] (A3 a i1 fun t=>Y 39 [t,b,c]) (O0 [bf]))) (O 1 [])
def g8(a b c d e f g h i j k:PV):T:=L3 a i1 (O0 [bf]) (G3 a (iv 12) (O0 [bf]) (L 25 h fun l=>XG 52 [(iv (-1)),i0,i0,i0,i0,i2,i1,i1,i1,i3,i2,i2,i1] a (w1 fun m=>N3 l m (O0 [bf]) (Q0 43 [a,b,c,d,e,f,g,h,i,j,k] (E3 a i7 (L 27 j fun n=>G3 n i0 (E3 a i8 (L 26 i fun o=>G3 o i0 (Q0 44 [j] (E3 a (iv 12) (Q0 4 [d,e,f,g] (N3 a (iv 12) (N3 d i0 (O0 [bf]) (N9 e e0 (O0 [bf]) (N3 f i0 (O0 [bf]) (L 22 g fun p=>G3 p i0 (O0 [bf]) (J (C 41 [i0,a,b,c,d,e,f,g,h,i,j,k] 1 (mz [a,b,c,d,e,f,g,h,i,j,k] (J (C 42 [i0,a,b,c,d,e,f,g,h,i,j,k] 1 (mz [a,b,c,d,e,f,g,h,i,j,k] (O0 [bt]))) (D 42 [i0,a,b,c,d,e,f,g,h,i,j,k] 0 0 (mz [a,b,c,d,e,f,g,h,i,j,k,bt] (O0 [bt])) (mz [a,b,c,d,e,f,g,h,i,j,k,bf] (O0 [bf])))))) (D 41 [i0,a,b,c,d,e,f,g,h,i,j,k] 0 0 (mz [a,b,c,d,e,f,g,h,i,j,k,bt] (O0 [bt])) (mz [a,b,c,d,e,f,g,h,i,j,k,bf] (O0 [bf])))))))) (J (C 41 [i0,a,b,c,d,e,f,g,h,i,j,k] 1 (mz [a,b,c,d,e,f,g,h,i,j,k] (J (C 42 [i0,a,b,c,d,e,f,g,h,i,j,k] 1 (mz [a,b,c,d,e,f,g,h,i,j,k] (O0 [bt]))) (D 42 [i0,a,b,c,d,e,f,g,h,i,j,k] 0 0 (mz [a,b,c,d,e,f,g,h,i,j,k,bt] (O0 [bt])) (mz [a,b,c,d,e,f,g,h,i,j,k,bf] (O0 [bf])))))) (D 41 [i0,a,b,c,d,e,f,g,h,i,j,k] 0 0 (mz [a,b,c,d,e,f,g,h,i,j,k,bt] (O0 [bt])) (mz [a,b,c,d,e,f,g,h,i,j,k,bf] (O0 [bf]))))) (O0 [bf])) (N3 a (iv 12) (N3 d i0 (O0 [bf]) (N9 e e0 (O0 [bf]) (N3 f i0 (O0 [bf]) (L 22 g fun p=>G3 p i0 (O0 [bf]) (J (C 41 [i0,a,b,c,d,e,f,g,h,i,j,k] 1 (mz [a,b,c,d,e,f,g,h,i,j,k] (J (C 42 [i0,a,b,c,d,e,f,g,h,i,j,k] 1 (mz [a,b,c,d,e,f,g,h,i,j,k] (O0 [bt]))) (D 42 [i0,a,b,c,d,e,f,g,h,i,j,k] 0 0 (mz [a,b,c,d,e,f,g,h,i,j,k,bt] (O0 [bt])) (mz [a,b,c,d,e,f,g,h,i,j,k,bf] (O0 [bf])))))) (D 41 [i0,a,b,c,d,e,f,g,h,i,j,k] 0 0 (mz [a,b,c,d,e,f,g,h,i,j,k,bt] (O0 [bt])) (mz [a,b,c,d,e,f,g,h,i,j,k,bf] (O0 [bf])))))))) (J (C 41 [i0,a,b,c,d,e,f,g,h,i,j,k] 1 (mz [a,b,c,d,e,f,g,h,i,j,k] (J (C 42 [i0,a,b,c,d,e,f,g,h,i,j,k] 1 (mz [a,b,c,d,e,f,g,h,i,j,k] (O0 [bt]))) (D 42 [i0,a,b,c,d,e,f,g,h,i,j,k] 0 0 (mz [a,b,c,d,e,f,g,h,i,j,k,bt] (O0 [bt])) (mz [a,b,c,d,e,f,g,h,i,j,k,bf] (O0 [bf])))))) (D 41 [i0,a,b,c,d,e,f,g,h,i,j,k] 0 0 (mz [a,b,c,d,e,f,g,h,i,j,k,bt] (O0 [bt])) (mz [a,b,c,d,e,f,g,h,i,j,k,bf] (O0 [bf])))))) (O0 [bf])) (O0 [bf])) (L 26 i fun o=>G3 o i0 (O0 [bf]) (Q0 44 [j] (E3 a (iv 12) (Q0 4 [d,e,f,g] (N3 a (iv 12) (N3 d i0 (O0 [bf]) (N9 e e0 (O0 [bf]) (N3 f i0 (O0 [bf]) (L 22 g fun p=>G3 p i0 (O0 [bf]) (J (C 41 [i0,a,b,c,d,e,f,g,h,i,j,k] 1 (mz [a,b,c,d,e,f,g,h,i,j,k] (J (C 42 [i0,a,b,c,d,e,f,g,h,i,j,k] 1 (mz [a,b,c,d,e,f,g,h,i,j,k] (O0 [bt]))) (D 42 [i0,a,b,c,d,e,f,g,h,i,j,k] 0 0 (mz [a,b,c,d,e,f,g,h,i,j,k,bt] (O0 [bt])) (mz [a,b,c,d,e,f,g,h,i,j,k,bf] (O0 [bf])))))) (D 41 [i0,a,b,c,d,e,f,g,h,i,j,k] 0 0 (mz [a,b,c,d,e,f,g,h,i,j,k,bt] (O0 [bt])) (mz [a,b,c,d,e,f,g,h,i,j,k,bf] (O0 [bf])))))))) (J (C 41 [i0,a,b,c,d,e,f,g,h,i,j,k] 1 (mz [a,b,c,d,e,f,g,h,i,j,k] (J (C 42 [i0,a,b,c,d,e,f,g,h,i,j,k] 1 (mz [a,b,c,d,e,f,g,h,i,j,k] (O0 [bt]))) (D 42 [i0,a,b,c,d,e,f,g,h,i,j,k] 0 0 (mz [a,b,c,d,e,f,g,h,i,j,k,bt] (O0 [bt])) (mz [a,b,c,d,e,f,g,h,i,j,k,bf] (O0 [bf])))))) (D 41 [i0,a,b,c,d,e,f,g,h,i,j,k] 0 0 (mz [a,b,c,d,e,f,g,h,i,j,k,bt] (O0 [bt])) (mz [a,b,c,d,e,f,g,h,i,j,k,bf] (O0 [bf]))))) (O0 [bf])) (N3 a (iv 12) (N3 d i0 (O0 [bf]) (N9 e e0 (O0 [bf]) (N3 f i0 (O0 [bf]) (L 22 g fun p=>G3 p i0 (O0 [bf]) (J (C 41 [i0,a,b,c,d,e,f,g,h,i,j,k] 1 (mz [a,b,c,d,e,f,g,h,i,j,k] (J (C 42 [i0,a,b,c,d,e,f,g,h,i,j,k] 1 (mz [a,b,c,d,e,f,g,h,i,j,k] (O0 [bt]))) (D 42 [i0,a,b,c,d,e,f,g,h,i,j,k] 0 0 (mz [a,b,c,d,e,f,g,h,i,j,k,bt] (O0 [bt])) (mz [a,b,c,d,e,f,g,h,i,j,k,bf] (O0 [bf])))))) (D 41 [i0,a,b,c,d,e,f,g,h,i,j,k] 0 0 (mz [a,b,c,d,e,f,g,h,i,j,k,bt] (O0 [bt])) (mz [a,b,c,d,e,f,g,h,i,j,k,bf] (O0 [bf])))))))) (J (C 41 [i0,a,b,c,d,e,f,g,h,i,j,k] 1 (mz [a,b,c,d,e,f,g,h,i,j,k] (J (C 42 [i0,a,b,c,d,e,f,g,h,i,j,k] 1 (mz [a,b,c,d,e,f,g,h,i,j,k] (O0 [bt]))) (D 42 [i0,a,b,c,d,e,f,g,h,i,j,k] 0 0 (mz [a,b,c,d,e,f,g,h,i,j,k,bt] (O0 [bt])) (mz [a,b,c,d,e,f,g,h,i,j,k,bf] (O0 [bf])))))) (D 41 [i0,a,b,c,d,e,f,g,h,i,j,k] 0 0 (mz [a,b,c,d,e,f,g,h,i,j,k,bt] (O0 [bt])) (mz [a,b,c,d,e,f,g,h,i,j,k,bf] (O0 [bf])))))) (O0 [bf])))) (O0 [bf])) (L 27 j fun n=>G3 n i0 (O0 [bf]) (E3 a i8 (L 26 i fun o=>G3 o i0 (Q0 44 [j] (E3 a (iv 12) (Q0 4 [d,e,f,g] (N3 a (iv 12) (N3 d i0 (O0 [bf]) (N9 e e0 (O0 [bf]) (N3 f i0 (O0 [bf]) (L 22 g fun p=>G3 p i0 (O0 [bf]) (J (C 41 [i0,a,b,c,d,e,f,g,h,i,j,k] 1 (mz [a,b,c,d,e,f,g,h,i,j,k] (J (C 42 [i0,a,b,c,d,e,f,g,h,i,j,k] 1 (mz [a,b,c,d,e,f,g,h,i,j,k] (O0 [bt]))) (D 42 [i0,a,b,c,d,e,f,g,h,i,j,k] 0 0 (mz [a,b,c,d,e,f,g,h,i,j,k,bt] (O0 [bt])) (mz [a,b,c,d,e,f,g,h,i,j,k,bf] (O0 [bf])))))) (D 41 [i0,a,b,c,d,e,f,g,h,i,j,k] 0 0 (mz [a,b,c,d,e,f,g,h,i,j,k,bt] (O0 [bt])) (mz [a,b,c,d,e,f,g,h,i,j,k,bf] (O0 [bf])))))))) (J (C 41 [i0,a,b,c,d,e,f,g,h,i,j,k] 1 (mz [a,b,c,d,e,f,g,h,i,j,k] (J (C 42 [i0,a,b,c,d,e,f,g,h,i,j,k] 1 (mz [a,b,c,d,e,f,g,h,i,j,k] (O0 [bt]))) (D 42 [i0,a,b,c,d,e,f,g,h,i,j,k] 0 0 (mz [a,b,c,d,e,f,g,h,i,j,k,bt] (O0 [bt])) (mz [a,b,c,d,e,f,g,h,i,j,k,bf] (O0 [bf])))))) (D 41 [i0,a,b,c,d,e,f,g,h,i,j,k] 0 0 (mz [a,b,c,d,e,f,g,h,i,j,k,bt] (O0 [bt])) (mz [a,b,c,d,e,f,g,h,i,j,k,bf] (O0 [bf]))))) (O0 [bf])) (N3 a (iv 12) (N3 d i0 (O0 [bf]) (N9 e e0 (O0 [bf]) (N3 f i0 (O0 [bf]) (L 22 g fun p=>G3 p i0 (O0 [bf]) (J (C 41 [i0,a,b,c,d,e,f,g,h,i,j,k] 1 (mz [a,b,c,d,e,f,g,h,i,j,k] (J (C 42 [i0,a,b,c,d,e,f,g,h,i,j,k] 1 (mz [a,b,c,d,e,f,g,h,i,j,k] (O0 [bt]))) (D 42 [i0,a,b,c,d,e,f,g,h,i,j,k] 0 0 (mz [a,b,c,d,e,f,g,h,i,j,k,bt] (O0 [bt])) (mz [a,b,c,d,e,f,g,h,i,j,k,bf] (O0 [bf])))))) (D 41 [i0,a,b,c,d,e,f,g,h,i,j,k] 0 0 (mz [a,b,c,d,e,f,g,h,i,j,k,bt] (O0 [bt])) (mz [a,b,c,d,e,f,g,h,i,j,k,bf] (O0 [bf])))))))) (J (C 41 [i0,a,b,c,d,e,f,g,h,i,j,k] 1 (mz [a,b,c,d,e,f,g,h,i,j,k] (J (C 42 [i0,a,b,c,d,e,f,g,h,i,j,k] 1 (mz [a,b,c,d,e,f,g,h,i,j,k] (O0 [bt]))) (D 42 [i0,a,b,c,d,e,f,g,h,i,j,k] 0 0 (mz [a,b,c,d,e,f,g,h,i,j,k,bt] (O0 [bt])) (mz [a,b,c,d,e,f,g,h,i,j,k,bf] (O0 [bf])))))) (D 41 [i0,a,b,c,d,e,f,g,h,i,j,k] 0 0 (mz [a,b,c,d,e,f,g,h,i,j,k,bt] (O0 [bt])) (mz [a,b,c,d,e,f,g,h,i,j,k,bf] (O0 [bf])))))) (O0 [bf])) (O0 [bf])) (L 26 i fun o=>G3 o i0 (O0 [bf]) (Q0 44 [j] (E3 a (iv 12) (Q0 4 [d,e,f,g] (N3 a (iv 12) (N3 d i0 (O0 [bf]) (N9 e e0 (O0 [bf]) (N3 f i0 (O0 [bf]) (L 22 g fun p=>G3 p i0 (O0 [bf]) (J (C 41 [i0,a,b,c,d,e,f,g,h,i,j,k] 1 (mz [a,b,c,d,e,f,g,h,i,j,k] (J (C 42 [i0,a,b,c,d,e,f,g,h,i,j,k] 1 (mz [a,b,c,d,e,f,g,h,i,j,k] (O0 [bt]))) (D 42 [i0,a,b,c,d,e,f,g,h,i,j,k] 0 0 (mz [a,b,c,d,e,f,g,h,i,j,k,bt] (O0 [bt])) (mz [a,b,c,d,e,f,g,h,i,j,k,bf] (O0 [bf])))))) (D 41 [i0,a,b,c,d,e,f,g,h,i,j,k] 0 0 (mz [a,b,c,d,e,f,g,h,i,j,k,bt] (O0 [bt])) (mz [a,b,c,d,e,f,g,h,i,j,k,bf] (O0 [bf])))))))) (J (C 41 [i0,a,b,c,d,e,f,g,h,i,j,k] 1 (mz [a,b,c,d,e,f,g,h,i,j,k] (J (C 42 [i0,a,b,c,d,e,f,g,h,i,j,k] 1 (mz [a,b,c,d,e,f,g,h,i,j,k] (O0 [bt]))) (D 42 [i0,a,b,c,d,e,f,g,h,i,j,k] 0 0 (mz [a,b,c,d,e,f,g,h,i,j,k,bt] (O0 [bt])) (mz [a,b,c,d,e,f,g,h,i,j,k,bf] (O0 [bf])))))) (D 41 [i0,a,b,c,d,e,f,g,h,i,j,k] 0 0 (mz [a,b,c,d,e,f,g,h,i,j,k,bt] (O0 [bt])) (mz [a,b,c,d,e,f,g,h,i,j,k,bf] (O0 [bf]))))) (O0 [bf])) (N3 a (iv 12) (N3 d i0 (O0 [bf]) (N9 e e0 (O0 [bf]) (N3 f i0 (O0 [bf]) (L 22 g fun p=>G3 p i0 (O0 [bf]) (J (C 41 [i0,a,b,c,d,e,f,g,h,i,j,k] 1 (mz [a,b,c,d,e,f,g,h,i,j,k] (J (C 42 [i0,a,b,c,d,e,f,g,h,i,j,k] 1 (mz [a,b,c,d,e,f,g,h,i,j,k] (O0 [bt]))) (D 42 [i0,a,b,c,d,e,f,g,h,i,j,k] 0 0 (mz [a,b,c,d,e,f,g,h,i,j,k,bt] (O0 [bt])) (mz [a,b,c,d,e,f,g,h,i,j,k,bf] (O0 [bf])))))) (D 41 [i0,a,b,c,d,e,f,g,h,i,j,k] 0 0 (mz [a,b,c,d,e,f,g,h,i,j,k,bt] (O0 [bt])) (mz [a,b,c,d,e,f,g,h,i,j,k,bf] (O0 [bf])))))))) (J (C 41 [i0,a,b,c,d,e,f,g,h,i,j,k] 1 (mz [a,b,c,d,e,f,g,h,i,j,k] (J (C 42 [i0,a,b,c,d,e,f,g,h,i,j,k] 1 (mz [a,b,c,d,e,f,g,h,i,j,k] (O0 [bt]))) (D 42 [i0,a,b,c,d,e,f,g,h,i,j,k] 0 0 (mz [a,b,c,d,e,f,g,h,i,j,k,bt] (O0 [bt])) (mz [a,b,c,d,e,f,g,h,i,j,k,bf] (O0 [bf])))))) (D 41 [i0,a,b,c,d,e,f,g,h,i,j,k] 0 0 (mz [a,b,c,d,e,f,g,h,i,j,k,bt] (O0 [bt])) (mz [a,b,c,d,e,f,g,h,i,j,k,bf] (O0 [bf])))))) (O0 [bf])))))) (O0 [bf])))))
def g8b0a(a b c d e f g h i j k l:PV):T:=L 25 i fun m=>L3 a m (X 25 i a (w11 fun n o p q r s t u v w x=>Q0 40 [n,o,p,q,r,s,t,u,v,w,x] (A3 a i1 fun y=>Y 41 [y,b,c,d,e,f,g,h,i,j,k,l]) (O0 [b,c,d,e,f,g,h,i,j,k,l,bf]))) (O 1 [b,c,d,e,f,g,h,i,j,k,l])
def g8b2a(a b c d e f g h i j k l:PV):T:=L 26 j fun m=>L3 a m (X 26 j a (w16 fun n o p q r s t u v w x y z a0 b0 c0=>Q0 0 [n,o,p,q,r] (Q0 40 [s,t,u,v,w,x,y,z,a0,b0,c0] (A3 a i1 fun d0=>Y 42 [d0,b,c,d,e,f,g,h,i,j,k,l]) (O0 [b,c,d,e,f,g,h,i,j,k,l,bf])) (O0 [b,c,d,e,f,g,h,i,j,k,l,bf]))) (O 1 [b,c,d,e,f,g,h,i,j,k,l])
def g25(a b c d e f g h i j k:PV):T:=E3 a i1 (E9 b e0 (TW .geq 2 c i0 (TW .leq 2 c (iv 4611686018427387903) (O0 [bt]) (O0 [bf])) (O0 [bf])) (O0 [bf])) (E3 a i7 (E9 b e0 (TW .eql 2 c i0 (O0 [bt]) (TW .eql 2 c i1 (O0 [bt]) (O0 [bf]))) (O0 [bf])) (TW .neq 2 c i0 (O0 [bf]) (E3 a i2 (Q0 46 [b] (O0 [bt]) (O0 [bf])) (E3 a i3 (Q0 48 [b] (O0 [bt]) (O0 [bf])) (E3 a i4 (Q0 239 [b] (O0 [bt]) (O0 [bf])) (E3 a i6 (Q0 240 [b] (O0 [bt]) (O0 [bf])) (E9 b e0 (O0 [bt]) (O0 [bf]))))))))
def g26(a:PV):T:=J (C 45 [i0,a] 1 (z (O0 [bt]))) (Q0 45 [i0,a] (O0 [bt]) (O0 [bf]))
def g26b0a(a b:PV):T:=L 27 b fun c=>L3 a c (X 27 b a (w13 fun d e f g h i j k l m n o p=>Q0 48 [d] (Q0 40 [e,f,g,h,i,j,k,l,m,n,o] (A3 a i1 fun q=>Y 45 [q,b]) (O0 [bf])) (O0 [bf]))) (O 1 [])
def g68(a:PV):T:=J (C 47 [i0,a] 1 (z (O0 [bt]))) (Q0 47 [i0,a] (O0 [bt]) (O0 [bf]))
def g68b0a(a b:PV):T:=L 9 b fun c=>L3 a c (C0 50 [b,a] (w1 fun d=>E3 d i0 (O0 [bf]) (A3 a d fun e=>Y 47 [e,b]))) (O 1 [])
def g69(a:PV):T:=Q0 240 [a] (O0 [bt]) (Q0 243 [a] (O0 [bt]) (O0 [bf]))
def g63(a:PV):T:=Q0 243 [a] (B .add 9 z6 a fun b=>B .add 9 b z2 fun c=>O0 [c]) (O0 [a])
def g107(a b:PV):T:=I 9 a b fun c=>V 5 3 c fun d=>L3 d (iv 128) (O0 [i1]) (H3 d (iv 192) (L3 d (iv 224) (S3 d (iv 192) fun e=>H3 d (iv 224) (L3 d (iv 240) (S3 d (iv 224) fun f=>H3 d (iv 240) (L3 d (iv 248) (S3 d (iv 240) fun g=>A3 b i4 fun h=>L 9 a fun i=>G3 h i (O0 [i0]) (D 51 [i1,a,b,g] 1 0 (v1 fun j=>mz [(iv 65536),i4] (L3 j (iv 65536) (O0 [i0]) (G3 j (iv 1114111) (O0 [i0]) (H3 j (iv 55296) (K3 j (iv 57343) (O0 [i0]) (O0 [i4])) (O0 [i4]))))) (w1 fun j=>O0 [j]))) (A3 b i3 fun g=>L 9 a fun h=>G3 g h (O0 [i0]) (D 52 [i1,a,b,f] 1 0 (v1 fun i=>mz [(iv 2048),i3] (L3 i (iv 2048) (O0 [i0]) (G3 i (iv 1114111) (O0 [i0]) (H3 i (iv 55296) (K3 i (iv 57343) (O0 [i0]) (O0 [i3])) (O0 [i3]))))) (w1 fun i=>O0 [i])))) (A3 b i3 fun g=>L 9 a fun h=>G3 g h (O0 [i0]) (D 52 [i1,a,b,f] 1 0 (v1 fun i=>mz [(iv 2048),i3] (L3 i (iv 2048) (O0 [i0]) (G3 i (iv 1114111) (O0 [i0]) (H3 i (iv 55296) (K3 i (iv 57343) (O0 [i0]) (O0 [i3])) (O0 [i3]))))) (w1 fun i=>O0 [i])))) (H3 d (iv 240) (L3 d (iv 248) (S3 d (iv 240) fun f=>A3 b i4 fun g=>L 9 a fun h=>G3 g h (O0 [i0]) (D 51 [i1,a,b,f] 1 0 (v1 fun i=>mz [(iv 65536),i4] (L3 i (iv 65536) (O0 [i0]) (G3 i (iv 1114111) (O0 [i0]) (H3 i (iv 55296) (K3 i (iv 57343) (O0 [i0]) (O0 [i4])) (O0 [i4]))))) (w1 fun i=>O0 [i]))) (A3 b i2 fun f=>L 9 a fun g=>G3 f g (O0 [i0]) (D 53 [i1,a,b,e] 1 0 (v1 fun h=>mz [(iv 128),i2] (L3 h (iv 128) (O0 [i0]) (G3 h (iv 1114111) (O0 [i0]) (H3 h (iv 55296) (K3 h (iv 57343) (O0 [i0]) (O0 [i2])) (O0 [i2]))))) (w1 fun h=>O0 [h])))) (A3 b i2 fun f=>L 9 a fun g=>G3 f g (O0 [i0]) (D 53 [i1,a,b,e] 1 0 (v1 fun h=>mz [(iv 128),i2] (L3 h (iv 128) (O0 [i0]) (G3 h (iv 1114111) (O0 [i0]) (H3 h (iv 55296) (K3 h (iv 57343) (O0 [i0]) (O0 [i2])) (O0 [i2]))))) (w1 fun h=>O0 [h]))))) (H3 d (iv 240) (L3 d (iv 248) (S3 d (iv 240) fun f=>A3 b i4 fun g=>L 9 a fun h=>G3 g h (O0 [i0]) (D 51 [i1,a,b,f] 1 0 (v1 fun i=>mz [(iv 65536),i4] (L3 i (iv 65536) (O0 [i0]) (G3 i (iv 1114111) (O0 [i0]) (H3 i (iv 55296) (K3 i (iv 57343) (O0 [i0]) (O0 [i4])) (O0 [i4]))))) (w1 fun i=>O0 [i]))) (A3 b i2 fun f=>L 9 a fun g=>G3 f g (O0 [i0]) (D 53 [i1,a,b,e] 1 0 (v1 fun h=>mz [(iv 128),i2] (L3 h (iv 128) (O0 [i0]) (G3 h (iv 1114111) (O0 [i0]) (H3 h (iv 55296) (K3 h (iv 57343) (O0 [i0]) (O0 [i2])) (O0 [i2]))))) (w1 fun h=>O0 [h])))) (A3 b i2 fun f=>L 9 a fun g=>G3 f g (O0 [i0]) (D 53 [i1,a,b,e] 1 0 (v1 fun h=>mz [(iv 128),i2] (L3 h (iv 128) (O0 [i0]) (G3 h (iv 1114111) (O0 [i0]) (H3 h (iv 55296) (K3 h (iv 57343) (O0 [i0]) (O0 [i2])) (O0 [i2]))))) (w1 fun h=>O0 [h]))))) (H3 d (iv 224) (L3 d (iv 240) (S3 d (iv 224) fun e=>H3 d (iv 240) (L3 d (iv 248) (S3 d (iv 240) fun f=>A3 b i4 fun g=>L 9 a fun h=>G3 g h (O0 [i0]) (D 51 [i1,a,b,f] 1 0 (v1 fun i=>mz [(iv 65536),i4] (L3 i (iv 65536) (O0 [i0]) (G3 i (iv 1114111) (O0 [i0]) (H3 i (iv 55296) (K3 i (iv 57343) (O0 [i0]) (O0 [i4])) (O0 [i4]))))) (w1 fun i=>O0 [i]))) (A3 b i3 fun f=>L 9 a fun g=>G3 f g (O0 [i0]) (D 52 [i1,a,b,e] 1 0 (v1 fun h=>mz [(iv 2048),i3] (L3 h (iv 2048) (O0 [i0]) (G3 h (iv 1114111) (O0 [i0]) (H3 h (iv 55296) (K3 h (iv 57343) (O0 [i0]) (O0 [i3])) (O0 [i3]))))) (w1 fun h=>O0 [h])))) (A3 b i3 fun f=>L 9 a fun g=>G3 f g (O0 [i0]) (D 52 [i1,a,b,e] 1 0 (v1 fun h=>mz [(iv 2048),i3] (L3 h (iv 2048) (O0 [i0]) (G3 h (iv 1114111) (O0 [i0]) (H3 h (iv 55296) (K3 h (iv 57343) (O0 [i0]) (O0 [i3])) (O0 [i3]))))) (w1 fun h=>O0 [h])))) (H3 d (iv 240) (L3 d (iv 248) (S3 d (iv 240) fun e=>A3 b i4 fun f=>L 9 a fun g=>G3 f g (O0 [i0]) (D 51 [i1,a,b,e] 1 0 (v1 fun h=>mz [(iv 65536),i4] (L3 h (iv 65536) (O0 [i0]) (G3 h (iv 1114111) (O0 [i0]) (H3 h (iv 55296) (K3 h (iv 57343) (O0 [i0]) (O0 [i4])) (O0 [i4]))))) (w1 fun h=>O0 [h]))) (O0 [i0])) (O0 [i0]))) (H3 d (iv 240) (L3 d (iv 248) (S3 d (iv 240) fun e=>A3 b i4 fun f=>L 9 a fun g=>G3 f g (O0 [i0]) (D 51 [i1,a,b,e] 1 0 (v1 fun h=>mz [(iv 65536),i4] (L3 h (iv 65536) (O0 [i0]) (G3 h (iv 1114111) (O0 [i0]) (H3 h (iv 55296) (K3 h (iv 57343) (O0 [i0]) (O0 [i4])) (O0 [i4]))))) (w1 fun h=>O0 [h]))) (O0 [i0])) (O0 [i0])))) (H3 d (iv 224) (L3 d (iv 240) (S3 d (iv 224) fun e=>H3 d (iv 240) (L3 d (iv 248) (S3 d (iv 240) fun f=>A3 b i4 fun g=>L 9 a fun h=>G3 g h (O0 [i0]) (D 51 [i1,a,b,f] 1 0 (v1 fun i=>mz [(iv 65536),i4] (L3 i (iv 65536) (O0 [i0]) (G3 i (iv 1114111) (O0 [i0]) (H3 i (iv 55296) (K3 i (iv 57343) (O0 [i0]) (O0 [i4])) (O0 [i4]))))) (w1 fun i=>O0 [i]))) (A3 b i3 fun f=>L 9 a fun g=>G3 f g (O0 [i0]) (D 52 [i1,a,b,e] 1 0 (v1 fun h=>mz [(iv 2048),i3] (L3 h (iv 2048) (O0 [i0]) (G3 h (iv 1114111) (O0 [i0]) (H3 h (iv 55296) (K3 h (iv 57343) (O0 [i0]) (O0 [i3])) (O0 [i3]))))) (w1 fun h=>O0 [h])))) (A3 b i3 fun f=>L 9 a fun g=>G3 f g (O0 [i0]) (D 52 [i1,a,b,e] 1 0 (v1 fun h=>mz [(iv 2048),i3] (L3 h (iv 2048) (O0 [i0]) (G3 h (iv 1114111) (O0 [i0]) (H3 h (iv 55296) (K3 h (iv 57343) (O0 [i0]) (O0 [i3])) (O0 [i3]))))) (w1 fun h=>O0 [h])))) (H3 d (iv 240) (L3 d (iv 248) (S3 d (iv 240) fun e=>A3 b i4 fun f=>L 9 a fun g=>G3 f g (O0 [i0]) (D 51 [i1,a,b,e] 1 0 (v1 fun h=>mz [(iv 65536),i4] (L3 h (iv 65536) (O0 [i0]) (G3 h (iv 1114111) (O0 [i0]) (H3 h (iv 55296) (K3 h (iv 57343) (O0 [i0]) (O0 [i4])) (O0 [i4]))))) (w1 fun h=>O0 [h]))) (O0 [i0])) (O0 [i0]))) (H3 d (iv 240) (L3 d (iv 248) (S3 d (iv 240) fun e=>A3 b i4 fun f=>L 9 a fun g=>G3 f g (O0 [i0]) (D 51 [i1,a,b,e] 1 0 (v1 fun h=>mz [(iv 65536),i4] (L3 h (iv 65536) (O0 [i0]) (G3 h (iv 1114111) (O0 [i0]) (H3 h (iv 55296) (K3 h (iv 57343) (O0 [i0]) (O0 [i4])) (O0 [i4]))))) (w1 fun h=>O0 [h]))) (O0 [i0])) (O0 [i0]))))
def g107b0a(a b c d:PV):T:=L3 a i4 (A3 c a fun e=>I 9 b e fun f=>V 5 3 f fun g=>L3 g (iv 128) (O0 [i0]) (G3 g (iv 191) (O0 [i0]) (B .mul 3 (iv 64) d fun h=>A3 h g fun i=>S3 i (iv 128) fun j=>A3 a i1 fun k=>Y 51 [k,b,c,j]))) (O 1 [d,(iv 65536),i4])
def g107b0b(a b c d:PV):T:=L3 a i3 (A3 c a fun e=>I 9 b e fun f=>V 5 3 f fun g=>L3 g (iv 128) (O0 [i0]) (G3 g (iv 191) (O0 [i0]) (B .mul 3 (iv 64) d fun h=>A3 h g fun i=>S3 i (iv 128) fun j=>A3 a i1 fun k=>Y 52 [k,b,c,j]))) (O 1 [d,(iv 2048),i3])
def g107b0c(a b c d:PV):T:=L3 a i2 (A3 c a fun e=>I 9 b e fun f=>V 5 3 f fun g=>L3 g (iv 128) (O0 [i0]) (G3 g (iv 191) (O0 [i0]) (B .mul 3 (iv 64) d fun h=>A3 h g fun i=>S3 i (iv 128) fun j=>A3 a i1 fun k=>Y 53 [k,b,c,j]))) (O 1 [d,(iv 128),i2])
def g37(a b c d e f g h i j k:PV):T:=C0 55 [a,b,c,d,e,f,g,h,i,j,k] (w2 fun l m=>G3 m (iv 300) (C0 56 [a,b,c,d,e,f,g,h,i,j,k] (w2 fun n o=>O0 [n])) (O0 [l]))
def g77a(a b c d e f g h i j k:PV):T:=C0 57 [a,b,c,d,e,f,g,h,i,j,k] (w2 fun l m=>C0 119 [l,m] (w2 fun n o=>O0 [n,o]))
def g77b(a b c d e f g h i j k:PV):T:=C0 58 [a,b,c,d,e,f,g,h,i,j,k] (w2 fun l m=>C0 119 [l,m] (w2 fun n o=>O0 [n,o]))
def g118a(a b c d e f g h i j k:PV):T:=Q0 122 [a,b,c,d,e,f,g,h,i,j,k] (C0 59 [a,b,c,d,e,f,g,h,i,j,k] (w2 fun l m=>O0 [l,m])) (C0 61 [a,b,c,d,e,f,g,h,i,j,k] (w2 fun l m=>O0 [l,m]))
def g118b(a b c d e f g h i j k:PV):T:=Q0 122 [a,b,c,d,e,f,g,h,i,j,k] (C0 62 [a,b,c,d,e,f,g,h,i,j,k] (w2 fun l m=>O0 [l,m])) (C0 64 [a,b,c,d,e,f,g,h,i,j,k] (w2 fun l m=>O0 [l,m]))
def g153a(a b c d e f g h i j k:PV):T:=E3 a i6 (X 25 h i0 (w11 fun l m n o p q r s t u v=>C0 118 [(.rows [[z8],[b],[z4]])] (w2 fun w x=>C0 55 [l,m,n,o,p,q,r,s,t,u,v] (w2 fun y z=>C0 115 [(.rows [[w,x],[y,z]])] (w2 fun a0 b0=>O0 [a0,b0]))))) (E3 a i9 (X 25 h i0 (w11 fun l m n o p q r s t u v=>X 25 h i1 (w11 fun w x y z a0 b0 c0 d0 f0 g0 h0=>X 25 h i2 (w11 fun j0 k0 l0 m0 n0 o0 p0 q0 r0 s0 t0=>C0 118 [(.rows [[z9]])] (w2 fun u0 v0=>C0 55 [l,m,n,o,p,q,r,s,t,u,v] (w2 fun w0 x0=>C0 118 [(.rows [[z10]])] (w2 fun y0 a1=>C0 55 [w,x,y,z,a0,b0,c0,d0,f0,g0,h0] (w2 fun b1 c1=>C0 118 [(.rows [[z11]])] (w2 fun d1 e1=>C0 55 [j0,k0,l0,m0,n0,o0,p0,q0,r0,s0,t0] (w2 fun f1 g1=>C0 115 [(.rows [[u0,v0],[w0,x0],[y0,a1],[b1,c1],[d1,e1],[f1,g1]])] (w2 fun h1 j1=>O0 [h1,j1]))))))))))) (TW .eql 2 c i1 (C0 118 [(.rows [])] (w2 fun l m=>L 27 j fun n=>C0 60 [i0,n,j,z12,l,m,a,b,c,d,e,f,g,h,i,j,k] (v2 fun o p=>mz [a,b,c,d,e,f,g,h,i,j,k,e0,i0] (X 25 h i0 (w11 fun q r s t u v w x y z a0=>C0 118 [(.rows [[z13]])] (w2 fun b0 c0=>C0 55 [q,r,s,t,u,v,w,x,y,z,a0] (w2 fun d0 f0=>C0 115 [(.rows [[o,p],[b0,c0],[d0,f0]])] (w2 fun g0 h0=>O0 [g0,h0])))))))) (C0 118 [(.rows [])] (w2 fun l m=>L 27 j fun n=>C0 60 [i0,n,j,z14,l,m,a,b,c,d,e,f,g,h,i,j,k] (v2 fun o p=>mz [a,b,c,d,e,f,g,h,i,j,k,e0,i0] (X 25 h i0 (w11 fun q r s t u v w x y z a0=>C0 118 [(.rows [[z13]])] (w2 fun b0 c0=>C0 55 [q,r,s,t,u,v,w,x,y,z,a0] (w2 fun d0 f0=>C0 115 [(.rows [[o,p],[b0,c0],[d0,f0]])] (w2 fun g0 h0=>O0 [g0,h0]))))))))))
def g153ab1a(a b c d e f g h i j k l m n o p q:PV):T:=L3 a b (X 27 c a (w13 fun r s t u v w x y z a0 b0 c0 d0=>G3 a i0 (C0 123 [r] (w1 fun f0=>C0 118 [(.rows [[z15],[f0],[z16]])] (w2 fun g0 h0=>C0 55 [s,t,u,v,w,x,y,z,a0,b0,c0] (w2 fun j0 k0=>C0 115 [(.rows [[g0,h0],[j0,k0]])] (w2 fun l0 m0=>C0 115 [(.rows [[e,f],[l0,m0]])] (w2 fun n0 o0=>A3 a i1 fun p0=>Y 60 [p0,b,c,z15,n0,o0,g,h,i,j,k,l,m,n,o,p,q])))))) (C0 123 [r] (w1 fun f0=>C0 118 [(.rows [[d],[f0],[z16]])] (w2 fun g0 h0=>C0 55 [s,t,u,v,w,x,y,z,a0,b0,c0] (w2 fun j0 k0=>C0 115 [(.rows [[g0,h0],[j0,k0]])] (w2 fun l0 m0=>A3 a i1 fun n0=>Y 60 [n0,b,c,d,l0,m0,g,h,i,j,k,l,m,n,o,p,q]))))))) (O0 [e,f,g,h,i,j,k,l,m,n,o,p,q,e0,i0])
def g116a(a b c d e f g h i j k:PV):T:=D 121 [a,b,c,d,e,f,g,h,i,j,k] 0 0 (v23 fun l m n o p q r s t u v w x y z a0 b0 c0 d0 f0 g0 h0 j0=>mz [bt] (C0 65 [m,n,o,p,q,r,s,t,u,v,w,l] (w2 fun k0 l0=>C0 118 [(.rows [[l]])] (w2 fun m0 n0=>C0 66 [x,y,z,a0,b0,c0,d0,f0,g0,h0,j0,l] (w2 fun o0 p0=>C0 115 [(.rows [[k0,l0],[m0,n0],[o0,p0]])] (w2 fun q0 r0=>O0 [q0,r0])))))) (v23 fun l m n o p q r s t u v w x y z a0 b0 c0 d0 f0 g0 h0 j0=>mz [bf] (E3 a i5 (C0 67 [a,b,c,d,e,f,g,h,i,j,k] (w2 fun k0 l0=>O0 [k0,l0])) (C0 68 [a,b,c,d,e,f,g,h,i,j,k] (w2 fun k0 l0=>O0 [k0,l0]))))
def g153b(a b c d e f g h i j k:PV):T:=E3 a i6 (X 25 h i0 (w11 fun l m n o p q r s t u v=>C0 118 [(.rows [[z8],[b],[z4]])] (w2 fun w x=>C0 56 [l,m,n,o,p,q,r,s,t,u,v] (w2 fun y z=>C0 115 [(.rows [[w,x],[y,z]])] (w2 fun a0 b0=>O0 [a0,b0]))))) (E3 a i9 (X 25 h i0 (w11 fun l m n o p q r s t u v=>X 25 h i1 (w11 fun w x y z a0 b0 c0 d0 f0 g0 h0=>X 25 h i2 (w11 fun j0 k0 l0 m0 n0 o0 p0 q0 r0 s0 t0=>C0 118 [(.rows [[z9]])] (w2 fun u0 v0=>C0 56 [l,m,n,o,p,q,r,s,t,u,v] (w2 fun w0 x0=>C0 118 [(.rows [[z10]])] (w2 fun y0 a1=>C0 56 [w,x,y,z,a0,b0,c0,d0,f0,g0,h0] (w2 fun b1 c1=>C0 118 [(.rows [[z11]])] (w2 fun d1 e1=>C0 56 [j0,k0,l0,m0,n0,o0,p0,q0,r0,s0,t0] (w2 fun f1 g1=>C0 115 [(.rows [[u0,v0],[w0,x0],[y0,a1],[b1,c1],[d1,e1],[f1,g1]])] (w2 fun h1 j1=>O0 [h1,j1]))))))))))) (TW .eql 2 c i1 (C0 118 [(.rows [])] (w2 fun l m=>L 27 j fun n=>C 63 [i0,n,j,z12,l,m,a,b,c,d,e,f,g,h,i,j,k] 1 (v2 fun o p=>mz [a,b,c,d,e,f,g,h,i,j,k,e0,i0] (X 25 h i0 (w11 fun q r s t u v w x y z a0=>C0 118 [(.rows [[z13]])] (w2 fun b0 c0=>C0 56 [q,r,s,t,u,v,w,x,y,z,a0] (w2 fun d0 f0=>C0 115 [(.rows [[o,p],[b0,c0],[d0,f0]])] (w2 fun g0 h0=>O0 [g0,h0])))))))) (C0 118 [(.rows [])] (w2 fun l m=>L 27 j fun n=>C 63 [i0,n,j,z14,l,m,a,b,c,d,e,f,g,h,i,j,k] 1 (v2 fun o p=>mz [a,b,c,d,e,f,g,h,i,j,k,e0,i0] (X 25 h i0 (w11 fun q r s t u v w x y z a0=>C0 118 [(.rows [[z13]])] (w2 fun b0 c0=>C0 56 [q,r,s,t,u,v,w,x,y,z,a0] (w2 fun d0 f0=>C0 115 [(.rows [[o,p],[b0,c0],[d0,f0]])] (w2 fun g0 h0=>O0 [g0,h0]))))))))))
def g153bb1a(a b c d e f g h i j k l m n o p q:PV):T:=L3 a b (X 27 c a (w13 fun r s t u v w x y z a0 b0 c0 d0=>G3 a i0 (C0 123 [r] (w1 fun f0=>C0 118 [(.rows [[z15],[f0],[z16]])] (w2 fun g0 h0=>C0 56 [s,t,u,v,w,x,y,z,a0,b0,c0] (w2 fun j0 k0=>C0 115 [(.rows [[g0,h0],[j0,k0]])] (w2 fun l0 m0=>C0 115 [(.rows [[e,f],[l0,m0]])] (w2 fun n0 o0=>A3 a i1 fun p0=>Y 63 [p0,b,c,z15,n0,o0,g,h,i,j,k,l,m,n,o,p,q])))))) (C0 123 [r] (w1 fun f0=>C0 118 [(.rows [[d],[f0],[z16]])] (w2 fun g0 h0=>C0 56 [s,t,u,v,w,x,y,z,a0,b0,c0] (w2 fun j0 k0=>C0 115 [(.rows [[g0,h0],[j0,k0]])] (w2 fun l0 m0=>A3 a i1 fun n0=>Y 63 [n0,b,c,d,l0,m0,g,h,i,j,k,l,m,n,o,p,q]))))))) (O 1 [e,f,g,h,i,j,k,l,m,n,o,p,q,e0,i0])
def g116b(a b c d e f g h i j k:PV):T:=D 121 [a,b,c,d,e,f,g,h,i,j,k] 0 0 (v23 fun l m n o p q r s t u v w x y z a0 b0 c0 d0 f0 g0 h0 j0=>mz [bt] (C0 70 [m,n,o,p,q,r,s,t,u,v,w,l] (w2 fun k0 l0=>C0 118 [(.rows [[l]])] (w2 fun m0 n0=>C0 71 [x,y,z,a0,b0,c0,d0,f0,g0,h0,j0,l] (w2 fun o0 p0=>C0 115 [(.rows [[k0,l0],[m0,n0],[o0,p0]])] (w2 fun q0 r0=>O0 [q0,r0])))))) (v23 fun l m n o p q r s t u v w x y z a0 b0 c0 d0 f0 g0 h0 j0=>mz [bf] (E3 a i5 (C0 72 [a,b,c,d,e,f,g,h,i,j,k] (w2 fun k0 l0=>O0 [k0,l0])) (C0 73 [a,b,c,d,e,f,g,h,i,j,k] (w2 fun k0 l0=>O0 [k0,l0]))))
def g150a(a b c d e f g h i j k l:PV):T:=Q0 122 [a,b,c,d,e,f,g,h,i,j,k] (C0 59 [a,b,c,d,e,f,g,h,i,j,k] (w2 fun m n=>C0 120 [m,n] (w2 fun o p=>O0 [o,p]))) (D 121 [a,b,c,d,e,f,g,h,i,j,k] 0 0 (v23 fun m n o p q r s t u v w x y z a0 b0 c0 d0 f0 g0 h0 j0 k0=>mz [bt] (Q0 131 [l,m] (C0 75 [a,b,c,d,e,f,g,h,i,j,k] (w2 fun l0 m0=>O0 [l0,m0])) (C0 76 [a,b,c,d,e,f,g,h,i,j,k] (w2 fun l0 m0=>O0 [l0,m0])))) (v23 fun m n o p q r s t u v w x y z a0 b0 c0 d0 f0 g0 h0 j0 k0=>mz [bf] (C0 76 [a,b,c,d,e,f,g,h,i,j,k] (w2 fun l0 m0=>O0 [l0,m0]))))
def g150b(a b c d e f g h i j k l:PV):T:=Q0 122 [a,b,c,d,e,f,g,h,i,j,k] (C0 59 [a,b,c,d,e,f,g,h,i,j,k] (w2 fun m n=>O0 [m,n])) (D 121 [a,b,c,d,e,f,g,h,i,j,k] 0 0 (v23 fun m n o p q r s t u v w x y z a0 b0 c0 d0 f0 g0 h0 j0 k0=>mz [bt] (Q0 130 [l,m] (C0 75 [a,b,c,d,e,f,g,h,i,j,k] (w2 fun l0 m0=>O0 [l0,m0])) (C0 61 [a,b,c,d,e,f,g,h,i,j,k] (w2 fun l0 m0=>O0 [l0,m0])))) (v23 fun m n o p q r s t u v w x y z a0 b0 c0 d0 f0 g0 h0 j0 k0=>mz [bf] (C0 61 [a,b,c,d,e,f,g,h,i,j,k] (w2 fun l0 m0=>O0 [l0,m0]))))
def g119a(a b c d e f g h i j k:PV):T:=X 25 h i0 (w11 fun l m n o p q r s t u v=>E3 l i5 (X 25 h i1 (w11 fun w x y z a0 b0 c0 d0 f0 g0 h0=>C0 67 [l,m,n,o,p,q,r,s,t,u,v] (w2 fun j0 k0=>C0 77 [w,x,y,z,a0,b0,c0,d0,f0,g0,h0] (w2 fun l0 m0=>C0 115 [(.rows [[j0,k0],[l0,m0]])] (w2 fun n0 o0=>O0 [n0,o0]))))) (X 25 h i1 (w11 fun w x y z a0 b0 c0 d0 f0 g0 h0=>C0 77 [l,m,n,o,p,q,r,s,t,u,v] (w2 fun j0 k0=>C0 77 [w,x,y,z,a0,b0,c0,d0,f0,g0,h0] (w2 fun l0 m0=>C0 115 [(.rows [[j0,k0],[l0,m0]])] (w2 fun n0 o0=>O0 [n0,o0]))))))
def g151a(a b c d e f g h i j k:PV):T:=E3 a i1 (C0 241 [c] (w1 fun l=>C0 118 [(.rows [[l]])] (w2 fun m n=>O0 [m,n]))) (E3 a i2 (C0 153 [b] (w1 fun l=>C0 118 [(.rows [[l]])] (w2 fun m n=>O0 [m,n]))) (E3 a i8 (X 25 h i0 (w11 fun l m n o p q r s t u v=>C0 118 [(.rows [[z17]])] (w2 fun w x=>C0 55 [l,m,n,o,p,q,r,s,t,u,v] (w2 fun y z=>C0 118 [(.rows [[z18]])] (w2 fun a0 b0=>C0 115 [(.rows [[w,x],[y,z],[a0,b0]])] (w2 fun c0 d0=>L 26 i fun f0=>C0 69 [i0,f0,i,c0,d0] (v2 fun g0 h0=>mz [e0,i0] (C0 118 [(.rows [[z19]])] (w2 fun j0 k0=>C0 115 [(.rows [[g0,h0],[j0,k0]])] (w2 fun l0 m0=>O0 [l0,m0])))))))))) (E3 a (iv 12) (X 25 h i0 (w11 fun l m n o p q r s t u v=>C0 118 [(.rows [[z20]])] (w2 fun w x=>C0 55 [l,m,n,o,p,q,r,s,t,u,v] (w2 fun y z=>C0 118 [(.rows [[z21]])] (w2 fun a0 b0=>C0 10 [d,e,f,g] (w1 fun c0=>C0 128 [d,e,f,g] (w1 fun d0=>C0 118 [(.rows [[z22]])] (w2 fun f0 g0=>C0 115 [(.rows [[w,x],[y,z],[a0,b0],[c0,d0],[f0,g0]])] (w2 fun h0 j0=>O0 [h0,j0]))))))))) (C0 123 [b] (w1 fun l=>C0 118 [(.rows [[l]])] (w2 fun m n=>O0 [m,n]))))))
def g151ab1a(a b c d e:PV):T:=L3 a b (X 26 c a (w16 fun f g h i j k l m n o p q r s t u=>G3 a i0 (C0 118 [(.rows [[z23]])] (w2 fun v w=>C0 115 [(.rows [[d,e],[v,w]])] (w2 fun x y=>C0 8 [f,g,h,i,j] (w1 fun z=>C0 126 [f,g,h,i,j] (w1 fun a0=>C0 118 [(.rows [[z4]])] (w2 fun b0 c0=>C0 55 [k,l,m,n,o,p,q,r,s,t,u] (w2 fun d0 f0=>C0 115 [(.rows [[x,y],[z,a0],[b0,c0],[d0,f0]])] (w2 fun g0 h0=>A3 a i1 fun j0=>Y 69 [j0,b,c,g0,h0])))))))) (C0 8 [f,g,h,i,j] (w1 fun v=>C0 126 [f,g,h,i,j] (w1 fun w=>C0 118 [(.rows [[z4]])] (w2 fun x y=>C0 55 [k,l,m,n,o,p,q,r,s,t,u] (w2 fun z a0=>C0 115 [(.rows [[d,e],[v,w],[x,y],[z,a0]])] (w2 fun b0 c0=>A3 a i1 fun d0=>Y 69 [d0,b,c,b0,c0])))))))) (O0 [d,e,e0,i0])
def g150c(a b c d e f g h i j k l:PV):T:=Q0 122 [a,b,c,d,e,f,g,h,i,j,k] (C0 62 [a,b,c,d,e,f,g,h,i,j,k] (w2 fun m n=>C0 120 [m,n] (w2 fun o p=>O0 [o,p]))) (D 121 [a,b,c,d,e,f,g,h,i,j,k] 0 0 (v23 fun m n o p q r s t u v w x y z a0 b0 c0 d0 f0 g0 h0 j0 k0=>mz [bt] (Q0 131 [l,m] (C0 78 [a,b,c,d,e,f,g,h,i,j,k] (w2 fun l0 m0=>O0 [l0,m0])) (C0 79 [a,b,c,d,e,f,g,h,i,j,k] (w2 fun l0 m0=>O0 [l0,m0])))) (v23 fun m n o p q r s t u v w x y z a0 b0 c0 d0 f0 g0 h0 j0 k0=>mz [bf] (C0 79 [a,b,c,d,e,f,g,h,i,j,k] (w2 fun l0 m0=>O0 [l0,m0]))))
def g150d(a b c d e f g h i j k l:PV):T:=Q0 122 [a,b,c,d,e,f,g,h,i,j,k] (C0 62 [a,b,c,d,e,f,g,h,i,j,k] (w2 fun m n=>O0 [m,n])) (D 121 [a,b,c,d,e,f,g,h,i,j,k] 0 0 (v23 fun m n o p q r s t u v w x y z a0 b0 c0 d0 f0 g0 h0 j0 k0=>mz [bt] (Q0 130 [l,m] (C0 78 [a,b,c,d,e,f,g,h,i,j,k] (w2 fun l0 m0=>O0 [l0,m0])) (C0 64 [a,b,c,d,e,f,g,h,i,j,k] (w2 fun l0 m0=>O0 [l0,m0])))) (v23 fun m n o p q r s t u v w x y z a0 b0 c0 d0 f0 g0 h0 j0 k0=>mz [bf] (C0 64 [a,b,c,d,e,f,g,h,i,j,k] (w2 fun l0 m0=>O0 [l0,m0]))))
def g119b(a b c d e f g h i j k:PV):T:=X 25 h i0 (w11 fun l m n o p q r s t u v=>E3 l i5 (X 25 h i1 (w11 fun w x y z a0 b0 c0 d0 f0 g0 h0=>C0 72 [l,m,n,o,p,q,r,s,t,u,v] (w2 fun j0 k0=>C0 80 [w,x,y,z,a0,b0,c0,d0,f0,g0,h0] (w2 fun l0 m0=>C0 115 [(.rows [[j0,k0],[l0,m0]])] (w2 fun n0 o0=>O0 [n0,o0]))))) (X 25 h i1 (w11 fun w x y z a0 b0 c0 d0 f0 g0 h0=>C0 80 [l,m,n,o,p,q,r,s,t,u,v] (w2 fun j0 k0=>C0 80 [w,x,y,z,a0,b0,c0,d0,f0,g0,h0] (w2 fun l0 m0=>C0 115 [(.rows [[j0,k0],[l0,m0]])] (w2 fun n0 o0=>O0 [n0,o0]))))))
def g151b(a b c d e f g h i j k:PV):T:=E3 a i1 (C0 241 [c] (w1 fun l=>C0 118 [(.rows [[l]])] (w2 fun m n=>O0 [m,n]))) (E3 a i2 (C0 153 [b] (w1 fun l=>C0 118 [(.rows [[l]])] (w2 fun m n=>O0 [m,n]))) (E3 a i8 (X 25 h i0 (w11 fun l m n o p q r s t u v=>C0 118 [(.rows [[z17]])] (w2 fun w x=>C0 56 [l,m,n,o,p,q,r,s,t,u,v] (w2 fun y z=>C0 118 [(.rows [[z18]])] (w2 fun a0 b0=>C0 115 [(.rows [[w,x],[y,z],[a0,b0]])] (w2 fun c0 d0=>L 26 i fun f0=>C 74 [i0,f0,i,c0,d0] 1 (v2 fun g0 h0=>mz [e0,i0] (C0 118 [(.rows [[z19]])] (w2 fun j0 k0=>C0 115 [(.rows [[g0,h0],[j0,k0]])] (w2 fun l0 m0=>O0 [l0,m0])))))))))) (E3 a (iv 12) (X 25 h i0 (w11 fun l m n o p q r s t u v=>C0 118 [(.rows [[z20]])] (w2 fun w x=>C0 56 [l,m,n,o,p,q,r,s,t,u,v] (w2 fun y z=>C0 118 [(.rows [[z21]])] (w2 fun a0 b0=>C0 10 [d,e,f,g] (w1 fun c0=>C0 128 [d,e,f,g] (w1 fun d0=>C0 118 [(.rows [[z22]])] (w2 fun f0 g0=>C0 115 [(.rows [[w,x],[y,z],[a0,b0],[c0,d0],[f0,g0]])] (w2 fun h0 j0=>O0 [h0,j0]))))))))) (C0 123 [b] (w1 fun l=>C0 118 [(.rows [[l]])] (w2 fun m n=>O0 [m,n]))))))
def g151bb1a(a b c d e:PV):T:=L3 a b (X 26 c a (w16 fun f g h i j k l m n o p q r s t u=>G3 a i0 (C0 118 [(.rows [[z23]])] (w2 fun v w=>C0 115 [(.rows [[d,e],[v,w]])] (w2 fun x y=>C0 8 [f,g,h,i,j] (w1 fun z=>C0 126 [f,g,h,i,j] (w1 fun a0=>C0 118 [(.rows [[z4]])] (w2 fun b0 c0=>C0 56 [k,l,m,n,o,p,q,r,s,t,u] (w2 fun d0 f0=>C0 115 [(.rows [[x,y],[z,a0],[b0,c0],[d0,f0]])] (w2 fun g0 h0=>A3 a i1 fun j0=>Y 74 [j0,b,c,g0,h0])))))))) (C0 8 [f,g,h,i,j] (w1 fun v=>C0 126 [f,g,h,i,j] (w1 fun w=>C0 118 [(.rows [[z4]])] (w2 fun x y=>C0 56 [k,l,m,n,o,p,q,r,s,t,u] (w2 fun z a0=>C0 115 [(.rows [[d,e],[v,w],[x,y],[z,a0]])] (w2 fun b0 c0=>A3 a i1 fun d0=>Y 74 [d0,b,c,b0,c0])))))))) (O 1 [d,e,e0,i0])
def g76a(a b c d e f g h i j k:PV):T:=C0 61 [a,b,c,d,e,f,g,h,i,j,k] (w2 fun l m=>C0 120 [l,m] (w2 fun n o=>O0 [n,o]))
def g116c(a b c d e f g h i j k:PV):T:=D 121 [a,b,c,d,e,f,g,h,i,j,k] 0 0 (v23 fun l m n o p q r s t u v w x y z a0 b0 c0 d0 f0 g0 h0 j0=>mz [bt] (C0 65 [m,n,o,p,q,r,s,t,u,v,w,l] (w2 fun k0 l0=>C0 118 [(.rows [[l]])] (w2 fun m0 n0=>C0 81 [x,y,z,a0,b0,c0,d0,f0,g0,h0,j0,l] (w2 fun o0 p0=>C0 115 [(.rows [[k0,l0],[m0,n0],[o0,p0]])] (w2 fun q0 r0=>O0 [q0,r0])))))) (v23 fun l m n o p q r s t u v w x y z a0 b0 c0 d0 f0 g0 h0 j0=>mz [bf] (E3 a i5 (C0 67 [a,b,c,d,e,f,g,h,i,j,k] (w2 fun k0 l0=>O0 [k0,l0])) (C0 68 [a,b,c,d,e,f,g,h,i,j,k] (w2 fun k0 l0=>O0 [k0,l0]))))
def g154a(a b c d e f g h i j k:PV):T:=Q0 122 [a,b,c,d,e,f,g,h,i,j,k] (C0 57 [a,b,c,d,e,f,g,h,i,j,k] (w2 fun l m=>C0 120 [l,m] (w2 fun n o=>O0 [n,o]))) (E3 a i5 (C0 57 [a,b,c,d,e,f,g,h,i,j,k] (w2 fun l m=>C0 120 [l,m] (w2 fun n o=>O0 [n,o]))) (E3 a (iv 10) (C0 57 [a,b,c,d,e,f,g,h,i,j,k] (w2 fun l m=>C0 120 [l,m] (w2 fun n o=>O0 [n,o]))) (E3 a (iv 11) (C0 57 [a,b,c,d,e,f,g,h,i,j,k] (w2 fun l m=>C0 120 [l,m] (w2 fun n o=>O0 [n,o]))) (C0 68 [a,b,c,d,e,f,g,h,i,j,k] (w2 fun l m=>O0 [l,m])))))
def g78a(a b c d e f g h i j k:PV):T:=E3 a i5 (C0 72 [a,b,c,d,e,f,g,h,i,j,k] (w2 fun l m=>O0 [l,m])) (C0 82 [a,b,c,d,e,f,g,h,i,j,k] (w2 fun l m=>O0 [l,m]))
def g116d(a b c d e f g h i j k:PV):T:=D 121 [a,b,c,d,e,f,g,h,i,j,k] 0 0 (v23 fun l m n o p q r s t u v w x y z a0 b0 c0 d0 f0 g0 h0 j0=>mz [bt] (C0 70 [m,n,o,p,q,r,s,t,u,v,w,l] (w2 fun k0 l0=>C0 118 [(.rows [[l]])] (w2 fun m0 n0=>C0 83 [x,y,z,a0,b0,c0,d0,f0,g0,h0,j0,l] (w2 fun o0 p0=>C0 115 [(.rows [[k0,l0],[m0,n0],[o0,p0]])] (w2 fun q0 r0=>O0 [q0,r0])))))) (v23 fun l m n o p q r s t u v w x y z a0 b0 c0 d0 f0 g0 h0 j0=>mz [bf] (E3 a i5 (C0 72 [a,b,c,d,e,f,g,h,i,j,k] (w2 fun k0 l0=>O0 [k0,l0])) (C0 73 [a,b,c,d,e,f,g,h,i,j,k] (w2 fun k0 l0=>O0 [k0,l0]))))
def g154b(a b c d e f g h i j k:PV):T:=Q0 122 [a,b,c,d,e,f,g,h,i,j,k] (C0 58 [a,b,c,d,e,f,g,h,i,j,k] (w2 fun l m=>C0 120 [l,m] (w2 fun n o=>O0 [n,o]))) (E3 a i5 (C0 58 [a,b,c,d,e,f,g,h,i,j,k] (w2 fun l m=>C0 120 [l,m] (w2 fun n o=>O0 [n,o]))) (E3 a (iv 10) (C0 58 [a,b,c,d,e,f,g,h,i,j,k] (w2 fun l m=>C0 120 [l,m] (w2 fun n o=>O0 [n,o]))) (E3 a (iv 11) (C0 58 [a,b,c,d,e,f,g,h,i,j,k] (w2 fun l m=>C0 120 [l,m] (w2 fun n o=>O0 [n,o]))) (C0 73 [a,b,c,d,e,f,g,h,i,j,k] (w2 fun l m=>O0 [l,m])))))
def g150e(a b c d e f g h i j k l:PV):T:=Q0 122 [a,b,c,d,e,f,g,h,i,j,k] (C0 59 [a,b,c,d,e,f,g,h,i,j,k] (w2 fun m n=>C0 120 [m,n] (w2 fun o p=>O0 [o,p]))) (D 121 [a,b,c,d,e,f,g,h,i,j,k] 0 0 (v23 fun m n o p q r s t u v w x y z a0 b0 c0 d0 f0 g0 h0 j0 k0=>mz [bt] (Q0 130 [l,m] (C0 75 [a,b,c,d,e,f,g,h,i,j,k] (w2 fun l0 m0=>O0 [l0,m0])) (C0 76 [a,b,c,d,e,f,g,h,i,j,k] (w2 fun l0 m0=>O0 [l0,m0])))) (v23 fun m n o p q r s t u v w x y z a0 b0 c0 d0 f0 g0 h0 j0 k0=>mz [bf] (C0 76 [a,b,c,d,e,f,g,h,i,j,k] (w2 fun l0 m0=>O0 [l0,m0]))))
def g76b(a b c d e f g h i j k:PV):T:=C0 64 [a,b,c,d,e,f,g,h,i,j,k] (w2 fun l m=>C0 120 [l,m] (w2 fun n o=>O0 [n,o]))
def g150f(a b c d e f g h i j k l:PV):T:=Q0 122 [a,b,c,d,e,f,g,h,i,j,k] (C0 62 [a,b,c,d,e,f,g,h,i,j,k] (w2 fun m n=>C0 120 [m,n] (w2 fun o p=>O0 [o,p]))) (D 121 [a,b,c,d,e,f,g,h,i,j,k] 0 0 (v23 fun m n o p q r s t u v w x y z a0 b0 c0 d0 f0 g0 h0 j0 k0=>mz [bt] (Q0 130 [l,m] (C0 78 [a,b,c,d,e,f,g,h,i,j,k] (w2 fun l0 m0=>O0 [l0,m0])) (C0 79 [a,b,c,d,e,f,g,h,i,j,k] (w2 fun l0 m0=>O0 [l0,m0])))) (v23 fun m n o p q r s t u v w x y z a0 b0 c0 d0 f0 g0 h0 j0 k0=>mz [bf] (C0 79 [a,b,c,d,e,f,g,h,i,j,k] (w2 fun l0 m0=>O0 [l0,m0]))))
def g11(a b c d e f g h i j k:PV):T:=C0 85 [a,b,c,d,e,f,g,h,i,j,k,e0,i0,i0] (v3 fun l m n=>mz [bf] (G3 n (iv 300) (C0 86 [a,b,c,d,e,f,g,h,i,j,k,e0,i0,i0] (v3 fun o p q=>mz [bt] (O0 [o]))) (O0 [l])))
def g38a(a b c d e f g h i j k l m n:PV):T:=A3 m i1 fun o=>G3 o n (C0 87 [a,b,c,d,e,f,g,h,i,j,k,l,o,o] (v3 fun p q r=>mz [bf] (S3 q i1 fun s=>O0 [p,s,r,bf]))) (C0 87 [a,b,c,d,e,f,g,h,i,j,k,l,o,n] (v3 fun p q r=>mz [bf] (S3 q i1 fun s=>O0 [p,s,r,bf])))
def g38b(a b c d e f g h i j k l m n:PV):T:=A3 m i1 fun o=>G3 o n (C0 89 [a,b,c,d,e,f,g,h,i,j,k,l,o,o] (v3 fun p q r=>mz [bt] (S3 q i1 fun s=>O0 [p,s,r,bt]))) (C0 89 [a,b,c,d,e,f,g,h,i,j,k,l,o,n] (v3 fun p q r=>mz [bt] (S3 q i1 fun s=>O0 [p,s,r,bt])))
def g79a(a b c d e f g h i j k l m n:PV):T:=C0 134 [a,b,c,d,e,f,g,h,i,j,k] (w1 fun o=>E3 a i6 (B .add 9 z24 b fun p=>B .add 9 p z25 fun q=>C0 91 [q,l,m,n] (v1 fun r=>mz [m,n,bf] (X 25 h i0 (w11 fun s t u v w x y z a0 b0 c0=>C0 85 [s,t,u,v,w,x,y,z,a0,b0,c0,r,m,n] (v3 fun d0 f0 g0=>mz [bf] (O0 [d0,f0,g0,bf])))))) (E3 a i7 (C0 91 [z14,l,m,n] (v1 fun p=>mz [m,n,bf] (TW .eql 2 c i1 (C0 91 [z26,p,m,n] (v1 fun q=>mz [m,n,bf] (C0 88 [i0,a,b,c,d,e,f,g,h,i,j,k,q,m,n] (ms [a,b,c,d,e,f,g,h,i,j,k] (v3 fun r s t=>mz [bf] (C0 91 [z13,r,s,t] (v1 fun u=>mz [s,t,bf] (X 25 h i0 (w11 fun v w x y z a0 b0 c0 d0 f0 g0=>C0 85 [v,w,x,y,z,a0,b0,c0,d0,f0,g0,u,s,t] (v3 fun h0 j0 k0=>mz [bf] (O0 [h0,j0,k0,bf]))))))))))) (C0 88 [i0,a,b,c,d,e,f,g,h,i,j,k,p,m,n] (ms [a,b,c,d,e,f,g,h,i,j,k] (v3 fun q r s=>mz [bf] (C0 91 [z13,q,r,s] (v1 fun t=>mz [r,s,bf] (X 25 h i0 (w11 fun u v w x y z a0 b0 c0 d0 f0=>C0 85 [u,v,w,x,y,z,a0,b0,c0,d0,f0,t,r,s] (v3 fun g0 h0 j0=>mz [bf] (O0 [g0,h0,j0,bf])))))))))))) (E3 a i9 (C0 91 [z9,l,m,n] (v1 fun p=>mz [m,n,bf] (X 25 h i0 (w11 fun q r s t u v w x y z a0=>C0 85 [q,r,s,t,u,v,w,x,y,z,a0,p,m,n] (v3 fun b0 c0 d0=>mz [bf] (C0 91 [z10,b0,c0,d0] (v1 fun f0=>mz [c0,d0,bf] (X 25 h i1 (w11 fun g0 h0 j0 k0 l0 m0 n0 o0 p0 q0 r0=>C0 85 [g0,h0,j0,k0,l0,m0,n0,o0,p0,q0,r0,f0,c0,d0] (v3 fun s0 t0 u0=>mz [bf] (C0 91 [z11,s0,t0,u0] (v1 fun v0=>mz [t0,u0,bf] (X 25 h i2 (w11 fun w0 x0 y0 a1 b1 c1 d1 e1 f1 g1 h1=>C0 85 [w0,x0,y0,a1,b1,c1,d1,e1,f1,g1,h1,v0,t0,u0] (v3 fun j1 k1 l1=>mz [bf] (O0 [j1,k1,l1,bf])))))))))))))))) (N9 o e0 (X 25 h i0 (w11 fun p q r s t u v w x y z=>E3 a i5 (X 25 w i1 (w11 fun a0 b0 c0 d0 f0 g0 h0 j0 k0 l0 m0=>C0 92 [a0,b0,c0,d0,f0,g0,h0,j0,k0,l0,m0,o,l,m,n] (v3 fun n0 o0 p0=>mz [bf] (C0 91 [o,n0,o0,p0] (v1 fun q0=>mz [o0,p0,bf] (X 25 h i1 (w11 fun r0 s0 t0 u0 v0 w0 x0 y0 a1 b1 c1=>C0 93 [r0,s0,t0,u0,v0,w0,x0,y0,a1,b1,c1,o,q0,o0,p0] (v3 fun d1 e1 f1=>mz [bf] (O0 [d1,e1,f1,bf]))))))))) (C0 92 [p,q,r,s,t,u,v,w,x,y,z,o,l,m,n] (v3 fun a0 b0 c0=>mz [bf] (C0 91 [o,a0,b0,c0] (v1 fun d0=>mz [b0,c0,bf] (X 25 h i1 (w11 fun f0 g0 h0 j0 k0 l0 m0 n0 o0 p0 q0=>C0 93 [f0,g0,h0,j0,k0,l0,m0,n0,o0,p0,q0,o,d0,b0,c0] (v3 fun r0 s0 t0=>mz [bf] (O0 [r0,s0,t0,bf])))))))))) (E3 a i5 (C0 94 [a,b,c,d,e,f,g,h,i,j,k,l,m,n] (v3 fun p q r=>mz [bf] (O0 [p,q,r,bf]))) (C0 95 [a,b,c,d,e,f,g,h,i,j,k,l,m,n] (v3 fun p q r=>mz [bf] (O0 [p,q,r,bf]))))))))
def g79ab1a(a b c d e f g h i j k l m n o:PV):T:=L 27 k fun p=>L3 a p (G3 a i0 (C0 91 [z15,m,n,o] (v1 fun q=>mz [n,o,bf] (X 27 k a (w13 fun r s t u v w x y z a0 b0 c0 d0=>C0 49 [r] (w1 fun f0=>B .add 9 f0 z27 fun g0=>C0 91 [g0,q,n,o] (v1 fun h0=>mz [n,o,bf] (C0 85 [s,t,u,v,w,x,y,z,a0,b0,c0,h0,n,o] (v3 fun j0 k0 l0=>mz [bf] (A3 a i1 fun m0=>Y 88 [m0,b,c,d,e,f,g,h,i,j,k,l,j0,k0,l0]))))))))) (X 27 k a (w13 fun q r s t u v w x y z a0 b0 c0=>C0 49 [q] (w1 fun d0=>B .add 9 d0 z27 fun f0=>C0 91 [f0,m,n,o] (v1 fun g0=>mz [n,o,bf] (C0 85 [r,s,t,u,v,w,x,y,z,a0,b0,g0,n,o] (v3 fun h0 j0 k0=>mz [bf] (A3 a i1 fun l0=>Y 88 [l0,b,c,d,e,f,g,h,i,j,k,l,h0,j0,k0])))))))) (O0 [b,c,d,e,f,g,h,i,j,k,l,m,n,o,bf])
def g79b(a b c d e f g h i j k l m n:PV):T:=C0 134 [a,b,c,d,e,f,g,h,i,j,k] (w1 fun o=>E3 a i6 (B .add 9 z24 b fun p=>B .add 9 p z25 fun q=>C0 97 [q,l,m,n] (v1 fun r=>mz [m,n,bt] (X 25 h i0 (w11 fun s t u v w x y z a0 b0 c0=>C0 86 [s,t,u,v,w,x,y,z,a0,b0,c0,r,m,n] (v3 fun d0 f0 g0=>mz [bt] (O0 [d0,f0,g0,bt])))))) (E3 a i7 (C0 97 [z14,l,m,n] (v1 fun p=>mz [m,n,bt] (TW .eql 2 c i1 (C0 97 [z26,p,m,n] (v1 fun q=>mz [m,n,bt] (C0 90 [i0,a,b,c,d,e,f,g,h,i,j,k,q,m,n] (ms [a,b,c,d,e,f,g,h,i,j,k] (v3 fun r s t=>mz [bt] (C0 97 [z13,r,s,t] (v1 fun u=>mz [s,t,bt] (X 25 h i0 (w11 fun v w x y z a0 b0 c0 d0 f0 g0=>C0 86 [v,w,x,y,z,a0,b0,c0,d0,f0,g0,u,s,t] (v3 fun h0 j0 k0=>mz [bt] (O0 [h0,j0,k0,bt]))))))))))) (C0 90 [i0,a,b,c,d,e,f,g,h,i,j,k,p,m,n] (ms [a,b,c,d,e,f,g,h,i,j,k] (v3 fun q r s=>mz [bt] (C0 97 [z13,q,r,s] (v1 fun t=>mz [r,s,bt] (X 25 h i0 (w11 fun u v w x y z a0 b0 c0 d0 f0=>C0 86 [u,v,w,x,y,z,a0,b0,c0,d0,f0,t,r,s] (v3 fun g0 h0 j0=>mz [bt] (O0 [g0,h0,j0,bt])))))))))))) (E3 a i9 (C0 97 [z9,l,m,n] (v1 fun p=>mz [m,n,bt] (X 25 h i0 (w11 fun q r s t u v w x y z a0=>C0 86 [q,r,s,t,u,v,w,x,y,z,a0,p,m,n] (v3 fun b0 c0 d0=>mz [bt] (C0 97 [z10,b0,c0,d0] (v1 fun f0=>mz [c0,d0,bt] (X 25 h i1 (w11 fun g0 h0 j0 k0 l0 m0 n0 o0 p0 q0 r0=>C0 86 [g0,h0,j0,k0,l0,m0,n0,o0,p0,q0,r0,f0,c0,d0] (v3 fun s0 t0 u0=>mz [bt] (C0 97 [z11,s0,t0,u0] (v1 fun v0=>mz [t0,u0,bt] (X 25 h i2 (w11 fun w0 x0 y0 a1 b1 c1 d1 e1 f1 g1 h1=>C0 86 [w0,x0,y0,a1,b1,c1,d1,e1,f1,g1,h1,v0,t0,u0] (v3 fun j1 k1 l1=>mz [bt] (O0 [j1,k1,l1,bt])))))))))))))))) (N9 o e0 (X 25 h i0 (w11 fun p q r s t u v w x y z=>E3 a i5 (X 25 w i1 (w11 fun a0 b0 c0 d0 f0 g0 h0 j0 k0 l0 m0=>C0 98 [a0,b0,c0,d0,f0,g0,h0,j0,k0,l0,m0,o,l,m,n] (v3 fun n0 o0 p0=>mz [bt] (C0 97 [o,n0,o0,p0] (v1 fun q0=>mz [o0,p0,bt] (X 25 h i1 (w11 fun r0 s0 t0 u0 v0 w0 x0 y0 a1 b1 c1=>C0 99 [r0,s0,t0,u0,v0,w0,x0,y0,a1,b1,c1,o,q0,o0,p0] (v3 fun d1 e1 f1=>mz [bt] (O0 [d1,e1,f1,bt]))))))))) (C0 98 [p,q,r,s,t,u,v,w,x,y,z,o,l,m,n] (v3 fun a0 b0 c0=>mz [bt] (C0 97 [o,a0,b0,c0] (v1 fun d0=>mz [b0,c0,bt] (X 25 h i1 (w11 fun f0 g0 h0 j0 k0 l0 m0 n0 o0 p0 q0=>C0 99 [f0,g0,h0,j0,k0,l0,m0,n0,o0,p0,q0,o,d0,b0,c0] (v3 fun r0 s0 t0=>mz [bt] (O0 [r0,s0,t0,bt])))))))))) (E3 a i5 (C0 100 [a,b,c,d,e,f,g,h,i,j,k,l,m,n] (v3 fun p q r=>mz [bt] (O0 [p,q,r,bt]))) (C0 101 [a,b,c,d,e,f,g,h,i,j,k,l,m,n] (v3 fun p q r=>mz [bt] (O0 [p,q,r,bt]))))))))
def g79bb1a(a b c d e f g h i j k l m n o:PV):T:=L 27 k fun p=>L3 a p (G3 a i0 (C0 97 [z15,m,n,o] (v1 fun q=>mz [n,o,bt] (X 27 k a (w13 fun r s t u v w x y z a0 b0 c0 d0=>C0 49 [r] (w1 fun f0=>B .add 9 f0 z27 fun g0=>C0 97 [g0,q,n,o] (v1 fun h0=>mz [n,o,bt] (C0 86 [s,t,u,v,w,x,y,z,a0,b0,c0,h0,n,o] (v3 fun j0 k0 l0=>mz [bt] (A3 a i1 fun m0=>Y 90 [m0,b,c,d,e,f,g,h,i,j,k,l,j0,k0,l0]))))))))) (X 27 k a (w13 fun q r s t u v w x y z a0 b0 c0=>C0 49 [q] (w1 fun d0=>B .add 9 d0 z27 fun f0=>C0 97 [f0,m,n,o] (v1 fun g0=>mz [n,o,bt] (C0 86 [r,s,t,u,v,w,x,y,z,a0,b0,g0,n,o] (v3 fun h0 j0 k0=>mz [bt] (A3 a i1 fun l0=>Y 90 [l0,b,c,d,e,f,g,h,i,j,k,l,h0,j0,k0])))))))) (O0 [b,c,d,e,f,g,h,i,j,k,l,m,n,o,bt])
def g121a(a b c d:PV):T:=N9 b e0 (B .add 9 b z3 fun e=>B .add 9 e a fun f=>O0 [f,c,d,bf]) (B .add 9 b a fun e=>O0 [e,c,d,bf])
def g122a(a b c d e f g h i j k l m n o:PV):T:=C0 134 [a,b,c,d,e,f,g,h,i,j,k] (w1 fun p=>Q0 135 [a,b,c,d,e,f,g,h,i,j,k] (C0 103 [a,b,c,d,e,f,g,h,i,j,k,m,n,o] (v3 fun q r s=>mz [bf] (O0 [q,r,s,bf]))) (N9 p e0 (Q0 137 [l,p] (C0 103 [a,b,c,d,e,f,g,h,i,j,k,m,n,o] (v3 fun q r s=>mz [bf] (O0 [q,r,s,bf]))) (C0 104 [a,b,c,d,e,f,g,h,i,j,k,m,n,o] (v3 fun q r s=>mz [bf] (O0 [q,r,s,bf])))) (C0 104 [a,b,c,d,e,f,g,h,i,j,k,m,n,o] (v3 fun q r s=>mz [bf] (O0 [q,r,s,bf])))))
def g122b(a b c d e f g h i j k l m n o:PV):T:=C0 134 [a,b,c,d,e,f,g,h,i,j,k] (w1 fun p=>Q0 135 [a,b,c,d,e,f,g,h,i,j,k] (N9 p e0 (Q0 136 [l,p] (C0 103 [a,b,c,d,e,f,g,h,i,j,k,m,n,o] (v3 fun q r s=>mz [bf] (O0 [q,r,s,bf]))) (C0 87 [a,b,c,d,e,f,g,h,i,j,k,m,n,o] (v3 fun q r s=>mz [bf] (O0 [q,r,s,bf])))) (C0 87 [a,b,c,d,e,f,g,h,i,j,k,m,n,o] (v3 fun q r s=>mz [bf] (O0 [q,r,s,bf])))) (N9 p e0 (Q0 136 [l,p] (C0 103 [a,b,c,d,e,f,g,h,i,j,k,m,n,o] (v3 fun q r s=>mz [bf] (O0 [q,r,s,bf]))) (C0 87 [a,b,c,d,e,f,g,h,i,j,k,m,n,o] (v3 fun q r s=>mz [bf] (O0 [q,r,s,bf])))) (C0 87 [a,b,c,d,e,f,g,h,i,j,k,m,n,o] (v3 fun q r s=>mz [bf] (O0 [q,r,s,bf])))))
def g123a(a b c d e f g h i j k l m n:PV):T:=X 25 h i0 (w11 fun o p q r s t u v w x y=>E3 o i5 (C0 94 [o,p,q,r,s,t,u,v,w,x,y,l,m,n] (v3 fun z a0 b0=>mz [bf] (X 25 h i1 (w11 fun c0 d0 f0 g0 h0 j0 k0 l0 m0 n0 o0=>C0 106 [c0,d0,f0,g0,h0,j0,k0,l0,m0,n0,o0,z,a0,b0] (v3 fun p0 q0 r0=>mz [bf] (O0 [p0,q0,r0,bf])))))) (C0 106 [o,p,q,r,s,t,u,v,w,x,y,l,m,n] (v3 fun z a0 b0=>mz [bf] (X 25 h i1 (w11 fun c0 d0 f0 g0 h0 j0 k0 l0 m0 n0 o0=>C0 106 [c0,d0,f0,g0,h0,j0,k0,l0,m0,n0,o0,z,a0,b0] (v3 fun p0 q0 r0=>mz [bf] (O0 [p0,q0,r0,bf])))))))
def g124a(a b c d e f g h i j k l m n:PV):T:=E3 a i1 (C0 17 [c] (w1 fun o=>C0 91 [o,l,m,n] (v1 fun p=>mz [m,n,bf] (O0 [p,m,n,bf])))) (E3 a i2 (C0 139 [b] (w1 fun o=>C0 91 [o,l,m,n] (v1 fun p=>mz [m,n,bf] (O0 [p,m,n,bf])))) (E3 a i8 (C0 91 [z17,l,m,n] (v1 fun o=>mz [m,n,bf] (X 25 h i0 (w11 fun p q r s t u v w x y z=>C0 85 [p,q,r,s,t,u,v,w,x,y,z,o,m,n] (v3 fun a0 b0 c0=>mz [bf] (C0 91 [z18,a0,b0,c0] (v1 fun d0=>mz [b0,c0,bf] (C0 96 [i0,a,b,c,d,e,f,g,h,i,j,k,d0,b0,c0] (ms [a,b,c,d,e,f,g,h,i,j,k] (v3 fun f0 g0 h0=>mz [bf] (C0 91 [z19,f0,g0,h0] (v1 fun j0=>mz [g0,h0,bf] (O0 [j0,g0,h0,bf]))))))))))))) (E3 a (iv 12) (C0 91 [z20,l,m,n] (v1 fun o=>mz [m,n,bf] (X 25 h i0 (w11 fun p q r s t u v w x y z=>C0 85 [p,q,r,s,t,u,v,w,x,y,z,o,m,n] (v3 fun a0 b0 c0=>mz [bf] (C0 6 [d,e,f,g] (w1 fun d0=>B .add 9 z28 d0 fun f0=>B .add 9 f0 z2 fun g0=>C0 91 [g0,a0,b0,c0] (v1 fun h0=>mz [b0,c0,bf] (C0 143 [d,e,f,g] (w1 fun j0=>C0 107 [j0,h0,b0,c0] (ms [h0,b0] (v1 fun k0=>mz [bf] (O0 [h0,b0,k0,bf]))))))))))))) (C0 49 [b] (w1 fun o=>C0 91 [o,l,m,n] (v1 fun p=>mz [m,n,bf] (O0 [p,m,n,bf])))))))
def g124ab1a(a b c d e f g h i j k l m n o:PV):T:=L 26 j fun p=>L3 a p (G3 a i0 (C0 91 [z23,m,n,o] (v1 fun q=>mz [n,o,bf] (X 26 j a (w16 fun r s t u v w x y z a0 b0 c0 d0 f0 g0 h0=>C0 2 [r,s,t,u,v] (w1 fun j0=>B .add 9 j0 z25 fun k0=>C0 91 [k0,q,n,o] (v1 fun l0=>mz [n,o,bf] (C0 141 [r,s,t,u,v] (w1 fun m0=>C0 107 [m0,l0,n,o] (ms [l0,n] (v1 fun n0=>mz [bf] (C0 85 [w,x,y,z,a0,b0,c0,d0,f0,g0,h0,l0,n,n0] (v3 fun o0 p0 q0=>mz [bf] (A3 a i1 fun r0=>Y 96 [r0,b,c,d,e,f,g,h,i,j,k,l,o0,p0,q0]))))))))))))) (X 26 j a (w16 fun q r s t u v w x y z a0 b0 c0 d0 f0 g0=>C0 2 [q,r,s,t,u] (w1 fun h0=>B .add 9 h0 z25 fun j0=>C0 91 [j0,m,n,o] (v1 fun k0=>mz [n,o,bf] (C0 141 [q,r,s,t,u] (w1 fun l0=>C0 107 [l0,k0,n,o] (ms [k0,n] (v1 fun m0=>mz [bf] (C0 85 [v,w,x,y,z,a0,b0,c0,d0,f0,g0,k0,n,m0] (v3 fun n0 o0 p0=>mz [bf] (A3 a i1 fun q0=>Y 96 [q0,b,c,d,e,f,g,h,i,j,k,l,n0,o0,p0])))))))))))) (O0 [b,c,d,e,f,g,h,i,j,k,l,m,n,o,bf])
def g121b(a b c d:PV):T:=N9 b e0 (B .add 9 b z3 fun e=>B .add 9 e a fun f=>O0 [f,c,d,bt]) (B .add 9 b a fun e=>O0 [e,c,d,bt])
def g122c(a b c d e f g h i j k l m n o:PV):T:=C0 134 [a,b,c,d,e,f,g,h,i,j,k] (w1 fun p=>Q0 135 [a,b,c,d,e,f,g,h,i,j,k] (C0 108 [a,b,c,d,e,f,g,h,i,j,k,m,n,o] (v3 fun q r s=>mz [bt] (O0 [q,r,s,bt]))) (N9 p e0 (Q0 137 [l,p] (E3 a i5 (C0 100 [a,b,c,d,e,f,g,h,i,j,k,m,n,o] (v3 fun q r s=>mz [bt] (O0 [q,r,s,bt]))) (C0 108 [a,b,c,d,e,f,g,h,i,j,k,m,n,o] (v3 fun q r s=>mz [bt] (O0 [q,r,s,bt])))) (C0 109 [a,b,c,d,e,f,g,h,i,j,k,m,n,o] (v3 fun q r s=>mz [bt] (O0 [q,r,s,bt])))) (C0 109 [a,b,c,d,e,f,g,h,i,j,k,m,n,o] (v3 fun q r s=>mz [bt] (O0 [q,r,s,bt])))))
def g122d(a b c d e f g h i j k l m n o:PV):T:=C0 134 [a,b,c,d,e,f,g,h,i,j,k] (w1 fun p=>Q0 135 [a,b,c,d,e,f,g,h,i,j,k] (N9 p e0 (Q0 136 [l,p] (E3 a i5 (C0 100 [a,b,c,d,e,f,g,h,i,j,k,m,n,o] (v3 fun q r s=>mz [bt] (O0 [q,r,s,bt]))) (C0 108 [a,b,c,d,e,f,g,h,i,j,k,m,n,o] (v3 fun q r s=>mz [bt] (O0 [q,r,s,bt])))) (C0 89 [a,b,c,d,e,f,g,h,i,j,k,m,n,o] (v3 fun q r s=>mz [bt] (O0 [q,r,s,bt])))) (C0 89 [a,b,c,d,e,f,g,h,i,j,k,m,n,o] (v3 fun q r s=>mz [bt] (O0 [q,r,s,bt])))) (N9 p e0 (Q0 136 [l,p] (E3 a i5 (C0 100 [a,b,c,d,e,f,g,h,i,j,k,m,n,o] (v3 fun q r s=>mz [bt] (O0 [q,r,s,bt]))) (C0 108 [a,b,c,d,e,f,g,h,i,j,k,m,n,o] (v3 fun q r s=>mz [bt] (O0 [q,r,s,bt])))) (C0 89 [a,b,c,d,e,f,g,h,i,j,k,m,n,o] (v3 fun q r s=>mz [bt] (O0 [q,r,s,bt])))) (C0 89 [a,b,c,d,e,f,g,h,i,j,k,m,n,o] (v3 fun q r s=>mz [bt] (O0 [q,r,s,bt])))))
def g123b(a b c d e f g h i j k l m n:PV):T:=X 25 h i0 (w11 fun o p q r s t u v w x y=>E3 o i5 (C0 100 [o,p,q,r,s,t,u,v,w,x,y,l,m,n] (v3 fun z a0 b0=>mz [bt] (X 25 h i1 (w11 fun c0 d0 f0 g0 h0 j0 k0 l0 m0 n0 o0=>C0 111 [c0,d0,f0,g0,h0,j0,k0,l0,m0,n0,o0,z,a0,b0] (v3 fun p0 q0 r0=>mz [bt] (O0 [p0,q0,r0,bt])))))) (C0 111 [o,p,q,r,s,t,u,v,w,x,y,l,m,n] (v3 fun z a0 b0=>mz [bt] (X 25 h i1 (w11 fun c0 d0 f0 g0 h0 j0 k0 l0 m0 n0 o0=>C0 111 [c0,d0,f0,g0,h0,j0,k0,l0,m0,n0,o0,z,a0,b0] (v3 fun p0 q0 r0=>mz [bt] (O0 [p0,q0,r0,bt])))))))
def g124b(a b c d e f g h i j k l m n:PV):T:=E3 a i1 (C0 17 [c] (w1 fun o=>C0 97 [o,l,m,n] (v1 fun p=>mz [m,n,bt] (O0 [p,m,n,bt])))) (E3 a i2 (C0 139 [b] (w1 fun o=>C0 97 [o,l,m,n] (v1 fun p=>mz [m,n,bt] (O0 [p,m,n,bt])))) (E3 a i8 (C0 97 [z17,l,m,n] (v1 fun o=>mz [m,n,bt] (X 25 h i0 (w11 fun p q r s t u v w x y z=>C0 86 [p,q,r,s,t,u,v,w,x,y,z,o,m,n] (v3 fun a0 b0 c0=>mz [bt] (C0 97 [z18,a0,b0,c0] (v1 fun d0=>mz [b0,c0,bt] (C0 102 [i0,a,b,c,d,e,f,g,h,i,j,k,d0,b0,c0] (ms [a,b,c,d,e,f,g,h,i,j,k] (v3 fun f0 g0 h0=>mz [bt] (C0 97 [z19,f0,g0,h0] (v1 fun j0=>mz [g0,h0,bt] (O0 [j0,g0,h0,bt]))))))))))))) (E3 a (iv 12) (C0 97 [z20,l,m,n] (v1 fun o=>mz [m,n,bt] (X 25 h i0 (w11 fun p q r s t u v w x y z=>C0 86 [p,q,r,s,t,u,v,w,x,y,z,o,m,n] (v3 fun a0 b0 c0=>mz [bt] (C0 6 [d,e,f,g] (w1 fun d0=>B .add 9 z28 d0 fun f0=>B .add 9 f0 z2 fun g0=>C0 97 [g0,a0,b0,c0] (v1 fun h0=>mz [b0,c0,bt] (C0 143 [d,e,f,g] (w1 fun j0=>C0 112 [j0,h0,b0,c0] (ms [h0,b0] (v1 fun k0=>mz [bt] (O0 [h0,b0,k0,bt]))))))))))))) (C0 49 [b] (w1 fun o=>C0 97 [o,l,m,n] (v1 fun p=>mz [m,n,bt] (O0 [p,m,n,bt])))))))
def g124bb1a(a b c d e f g h i j k l m n o:PV):T:=L 26 j fun p=>L3 a p (G3 a i0 (C0 97 [z23,m,n,o] (v1 fun q=>mz [n,o,bt] (X 26 j a (w16 fun r s t u v w x y z a0 b0 c0 d0 f0 g0 h0=>C0 2 [r,s,t,u,v] (w1 fun j0=>B .add 9 j0 z25 fun k0=>C0 97 [k0,q,n,o] (v1 fun l0=>mz [n,o,bt] (C0 141 [r,s,t,u,v] (w1 fun m0=>C0 112 [m0,l0,n,o] (ms [l0,n] (v1 fun n0=>mz [bt] (C0 86 [w,x,y,z,a0,b0,c0,d0,f0,g0,h0,l0,n,n0] (v3 fun o0 p0 q0=>mz [bt] (A3 a i1 fun r0=>Y 102 [r0,b,c,d,e,f,g,h,i,j,k,l,o0,p0,q0]))))))))))))) (X 26 j a (w16 fun q r s t u v w x y z a0 b0 c0 d0 f0 g0=>C0 2 [q,r,s,t,u] (w1 fun h0=>B .add 9 h0 z25 fun j0=>C0 97 [j0,m,n,o] (v1 fun k0=>mz [n,o,bt] (C0 141 [q,r,s,t,u] (w1 fun l0=>C0 112 [l0,k0,n,o] (ms [k0,n] (v1 fun m0=>mz [bt] (C0 86 [v,w,x,y,z,a0,b0,c0,d0,f0,g0,k0,n,m0] (v3 fun n0 o0 p0=>mz [bt] (A3 a i1 fun q0=>Y 102 [q0,b,c,d,e,f,g,h,i,j,k,l,n0,o0,p0])))))))))))) (O0 [b,c,d,e,f,g,h,i,j,k,l,m,n,o,bt])
def g156a(a b c d e f g h i j k l m n:PV):T:=C0 91 [z20,l,m,n] (v1 fun o=>mz [m,n,bf] (C0 85 [a,b,c,d,e,f,g,h,i,j,k,o,m,n] (v3 fun p q r=>mz [bf] (C0 91 [z22,p,q,r] (v1 fun s=>mz [q,r,bf] (O0 [s,q,r,bf]))))))
def g79c(a b c d e f g h i j k l m n:PV):T:=C0 134 [a,b,c,d,e,f,g,h,i,j,k] (w1 fun o=>E3 a i6 (B .add 9 z24 b fun p=>B .add 9 p z25 fun q=>C0 91 [q,l,m,n] (v1 fun r=>mz [m,n,bf] (X 25 h i0 (w11 fun s t u v w x y z a0 b0 c0=>C0 85 [s,t,u,v,w,x,y,z,a0,b0,c0,r,m,n] (v3 fun d0 f0 g0=>mz [bf] (O0 [d0,f0,g0,bf])))))) (E3 a i7 (C0 91 [z14,l,m,n] (v1 fun p=>mz [m,n,bf] (TW .eql 2 c i1 (C0 91 [z26,p,m,n] (v1 fun q=>mz [m,n,bf] (C0 88 [i0,a,b,c,d,e,f,g,h,i,j,k,q,m,n] (ms [a,b,c,d,e,f,g,h,i,j,k] (v3 fun r s t=>mz [bf] (C0 91 [z13,r,s,t] (v1 fun u=>mz [s,t,bf] (X 25 h i0 (w11 fun v w x y z a0 b0 c0 d0 f0 g0=>C0 85 [v,w,x,y,z,a0,b0,c0,d0,f0,g0,u,s,t] (v3 fun h0 j0 k0=>mz [bf] (O0 [h0,j0,k0,bf]))))))))))) (C0 88 [i0,a,b,c,d,e,f,g,h,i,j,k,p,m,n] (ms [a,b,c,d,e,f,g,h,i,j,k] (v3 fun q r s=>mz [bf] (C0 91 [z13,q,r,s] (v1 fun t=>mz [r,s,bf] (X 25 h i0 (w11 fun u v w x y z a0 b0 c0 d0 f0=>C0 85 [u,v,w,x,y,z,a0,b0,c0,d0,f0,t,r,s] (v3 fun g0 h0 j0=>mz [bf] (O0 [g0,h0,j0,bf])))))))))))) (E3 a i9 (C0 91 [z9,l,m,n] (v1 fun p=>mz [m,n,bf] (X 25 h i0 (w11 fun q r s t u v w x y z a0=>C0 85 [q,r,s,t,u,v,w,x,y,z,a0,p,m,n] (v3 fun b0 c0 d0=>mz [bf] (C0 91 [z10,b0,c0,d0] (v1 fun f0=>mz [c0,d0,bf] (X 25 h i1 (w11 fun g0 h0 j0 k0 l0 m0 n0 o0 p0 q0 r0=>C0 85 [g0,h0,j0,k0,l0,m0,n0,o0,p0,q0,r0,f0,c0,d0] (v3 fun s0 t0 u0=>mz [bf] (C0 91 [z11,s0,t0,u0] (v1 fun v0=>mz [t0,u0,bf] (X 25 h i2 (w11 fun w0 x0 y0 a1 b1 c1 d1 e1 f1 g1 h1=>C0 85 [w0,x0,y0,a1,b1,c1,d1,e1,f1,g1,h1,v0,t0,u0] (v3 fun j1 k1 l1=>mz [bf] (O0 [j1,k1,l1,bf])))))))))))))))) (N9 o e0 (X 25 h i0 (w11 fun p q r s t u v w x y z=>E3 a i5 (X 25 w i1 (w11 fun a0 b0 c0 d0 f0 g0 h0 j0 k0 l0 m0=>C0 92 [a0,b0,c0,d0,f0,g0,h0,j0,k0,l0,m0,o,l,m,n] (v3 fun n0 o0 p0=>mz [bf] (C0 91 [o,n0,o0,p0] (v1 fun q0=>mz [o0,p0,bf] (X 25 h i1 (w11 fun r0 s0 t0 u0 v0 w0 x0 y0 a1 b1 c1=>C0 113 [r0,s0,t0,u0,v0,w0,x0,y0,a1,b1,c1,o,q0,o0,p0] (v3 fun d1 e1 f1=>mz [bf] (O0 [d1,e1,f1,bf]))))))))) (C0 92 [p,q,r,s,t,u,v,w,x,y,z,o,l,m,n] (v3 fun a0 b0 c0=>mz [bf] (C0 91 [o,a0,b0,c0] (v1 fun d0=>mz [b0,c0,bf] (X 25 h i1 (w11 fun f0 g0 h0 j0 k0 l0 m0 n0 o0 p0 q0=>C0 113 [f0,g0,h0,j0,k0,l0,m0,n0,o0,p0,q0,o,d0,b0,c0] (v3 fun r0 s0 t0=>mz [bf] (O0 [r0,s0,t0,bf])))))))))) (E3 a i5 (C0 94 [a,b,c,d,e,f,g,h,i,j,k,l,m,n] (v3 fun p q r=>mz [bf] (O0 [p,q,r,bf]))) (C0 95 [a,b,c,d,e,f,g,h,i,j,k,l,m,n] (v3 fun p q r=>mz [bf] (O0 [p,q,r,bf]))))))))
def g79cb1a(a b c d e f g h i j k l m n o:PV):T:=L 27 k fun p=>L3 a p (G3 a i0 (C0 91 [z15,m,n,o] (v1 fun q=>mz [n,o,bf] (X 27 k a (w13 fun r s t u v w x y z a0 b0 c0 d0=>C0 49 [r] (w1 fun f0=>B .add 9 f0 z27 fun g0=>C0 91 [g0,q,n,o] (v1 fun h0=>mz [n,o,bf] (C0 85 [s,t,u,v,w,x,y,z,a0,b0,c0,h0,n,o] (v3 fun j0 k0 l0=>mz [bf] (A3 a i1 fun m0=>Y 88 [m0,b,c,d,e,f,g,h,i,j,k,l,j0,k0,l0]))))))))) (X 27 k a (w13 fun q r s t u v w x y z a0 b0 c0=>C0 49 [q] (w1 fun d0=>B .add 9 d0 z27 fun f0=>C0 91 [f0,m,n,o] (v1 fun g0=>mz [n,o,bf] (C0 85 [r,s,t,u,v,w,x,y,z,a0,b0,g0,n,o] (v3 fun h0 j0 k0=>mz [bf] (A3 a i1 fun l0=>Y 88 [l0,b,c,d,e,f,g,h,i,j,k,l,h0,j0,k0])))))))) (O0 [b,c,d,e,f,g,h,i,j,k,l,m,n,o,bf])
def g158a(a b c d e f g h i j k l m n:PV):T:=Q0 135 [a,b,c,d,e,f,g,h,i,j,k] (C0 103 [a,b,c,d,e,f,g,h,i,j,k,l,m,n] (v3 fun o p q=>mz [bf] (O0 [o,p,q,bf]))) (E3 a i5 (C0 103 [a,b,c,d,e,f,g,h,i,j,k,l,m,n] (v3 fun o p q=>mz [bf] (O0 [o,p,q,bf]))) (E3 a (iv 10) (C0 103 [a,b,c,d,e,f,g,h,i,j,k,l,m,n] (v3 fun o p q=>mz [bf] (O0 [o,p,q,bf]))) (E3 a (iv 11) (C0 103 [a,b,c,d,e,f,g,h,i,j,k,l,m,n] (v3 fun o p q=>mz [bf] (O0 [o,p,q,bf]))) (C0 95 [a,b,c,d,e,f,g,h,i,j,k,l,m,n] (v3 fun o p q=>mz [bf] (O0 [o,p,q,bf]))))))
def g160a(a b c d:PV):T:=A3 c a fun e=>G3 e d (O0 [b,c,e,bf]) (O0 [b,c,d,bf])
def g156b(a b c d e f g h i j k l m n:PV):T:=C0 97 [z20,l,m,n] (v1 fun o=>mz [m,n,bt] (C0 86 [a,b,c,d,e,f,g,h,i,j,k,o,m,n] (v3 fun p q r=>mz [bt] (C0 97 [z22,p,q,r] (v1 fun s=>mz [q,r,bt] (O0 [s,q,r,bt]))))))
def g79d(a b c d e f g h i j k l m n:PV):T:=C0 134 [a,b,c,d,e,f,g,h,i,j,k] (w1 fun o=>E3 a i6 (B .add 9 z24 b fun p=>B .add 9 p z25 fun q=>C0 97 [q,l,m,n] (v1 fun r=>mz [m,n,bt] (X 25 h i0 (w11 fun s t u v w x y z a0 b0 c0=>C0 86 [s,t,u,v,w,x,y,z,a0,b0,c0,r,m,n] (v3 fun d0 f0 g0=>mz [bt] (O0 [d0,f0,g0,bt])))))) (E3 a i7 (C0 97 [z14,l,m,n] (v1 fun p=>mz [m,n,bt] (TW .eql 2 c i1 (C0 97 [z26,p,m,n] (v1 fun q=>mz [m,n,bt] (C0 90 [i0,a,b,c,d,e,f,g,h,i,j,k,q,m,n] (ms [a,b,c,d,e,f,g,h,i,j,k] (v3 fun r s t=>mz [bt] (C0 97 [z13,r,s,t] (v1 fun u=>mz [s,t,bt] (X 25 h i0 (w11 fun v w x y z a0 b0 c0 d0 f0 g0=>C0 86 [v,w,x,y,z,a0,b0,c0,d0,f0,g0,u,s,t] (v3 fun h0 j0 k0=>mz [bt] (O0 [h0,j0,k0,bt]))))))))))) (C0 90 [i0,a,b,c,d,e,f,g,h,i,j,k,p,m,n] (ms [a,b,c,d,e,f,g,h,i,j,k] (v3 fun q r s=>mz [bt] (C0 97 [z13,q,r,s] (v1 fun t=>mz [r,s,bt] (X 25 h i0 (w11 fun u v w x y z a0 b0 c0 d0 f0=>C0 86 [u,v,w,x,y,z,a0,b0,c0,d0,f0,t,r,s] (v3 fun g0 h0 j0=>mz [bt] (O0 [g0,h0,j0,bt])))))))))))) (E3 a i9 (C0 97 [z9,l,m,n] (v1 fun p=>mz [m,n,bt] (X 25 h i0 (w11 fun q r s t u v w x y z a0=>C0 86 [q,r,s,t,u,v,w,x,y,z,a0,p,m,n] (v3 fun b0 c0 d0=>mz [bt] (C0 97 [z10,b0,c0,d0] (v1 fun f0=>mz [c0,d0,bt] (X 25 h i1 (w11 fun g0 h0 j0 k0 l0 m0 n0 o0 p0 q0 r0=>C0 86 [g0,h0,j0,k0,l0,m0,n0,o0,p0,q0,r0,f0,c0,d0] (v3 fun s0 t0 u0=>mz [bt] (C0 97 [z11,s0,t0,u0] (v1 fun v0=>mz [t0,u0,bt] (X 25 h i2 (w11 fun w0 x0 y0 a1 b1 c1 d1 e1 f1 g1 h1=>C0 86 [w0,x0,y0,a1,b1,c1,d1,e1,f1,g1,h1,v0,t0,u0] (v3 fun j1 k1 l1=>mz [bt] (O0 [j1,k1,l1,bt])))))))))))))))) (N9 o e0 (X 25 h i0 (w11 fun p q r s t u v w x y z=>E3 a i5 (X 25 w i1 (w11 fun a0 b0 c0 d0 f0 g0 h0 j0 k0 l0 m0=>C0 98 [a0,b0,c0,d0,f0,g0,h0,j0,k0,l0,m0,o,l,m,n] (v3 fun n0 o0 p0=>mz [bt] (C0 97 [o,n0,o0,p0] (v1 fun q0=>mz [o0,p0,bt] (X 25 h i1 (w11 fun r0 s0 t0 u0 v0 w0 x0 y0 a1 b1 c1=>C0 114 [r0,s0,t0,u0,v0,w0,x0,y0,a1,b1,c1,o,q0,o0,p0] (v3 fun d1 e1 f1=>mz [bt] (O0 [d1,e1,f1,bt]))))))))) (C0 98 [p,q,r,s,t,u,v,w,x,y,z,o,l,m,n] (v3 fun a0 b0 c0=>mz [bt] (C0 97 [o,a0,b0,c0] (v1 fun d0=>mz [b0,c0,bt] (X 25 h i1 (w11 fun f0 g0 h0 j0 k0 l0 m0 n0 o0 p0 q0=>C0 114 [f0,g0,h0,j0,k0,l0,m0,n0,o0,p0,q0,o,d0,b0,c0] (v3 fun r0 s0 t0=>mz [bt] (O0 [r0,s0,t0,bt])))))))))) (E3 a i5 (C0 100 [a,b,c,d,e,f,g,h,i,j,k,l,m,n] (v3 fun p q r=>mz [bt] (O0 [p,q,r,bt]))) (C0 101 [a,b,c,d,e,f,g,h,i,j,k,l,m,n] (v3 fun p q r=>mz [bt] (O0 [p,q,r,bt]))))))))
def g79db1a(a b c d e f g h i j k l m n o:PV):T:=L 27 k fun p=>L3 a p (G3 a i0 (C0 97 [z15,m,n,o] (v1 fun q=>mz [n,o,bt] (X 27 k a (w13 fun r s t u v w x y z a0 b0 c0 d0=>C0 49 [r] (w1 fun f0=>B .add 9 f0 z27 fun g0=>C0 97 [g0,q,n,o] (v1 fun h0=>mz [n,o,bt] (C0 86 [s,t,u,v,w,x,y,z,a0,b0,c0,h0,n,o] (v3 fun j0 k0 l0=>mz [bt] (A3 a i1 fun m0=>Y 90 [m0,b,c,d,e,f,g,h,i,j,k,l,j0,k0,l0]))))))))) (X 27 k a (w13 fun q r s t u v w x y z a0 b0 c0=>C0 49 [q] (w1 fun d0=>B .add 9 d0 z27 fun f0=>C0 97 [f0,m,n,o] (v1 fun g0=>mz [n,o,bt] (C0 86 [r,s,t,u,v,w,x,y,z,a0,b0,g0,n,o] (v3 fun h0 j0 k0=>mz [bt] (A3 a i1 fun l0=>Y 90 [l0,b,c,d,e,f,g,h,i,j,k,l,h0,j0,k0])))))))) (O0 [b,c,d,e,f,g,h,i,j,k,l,m,n,o,bt])
def g158b(a b c d e f g h i j k l m n:PV):T:=Q0 135 [a,b,c,d,e,f,g,h,i,j,k] (C0 108 [a,b,c,d,e,f,g,h,i,j,k,l,m,n] (v3 fun o p q=>mz [bt] (O0 [o,p,q,bt]))) (E3 a i5 (C0 108 [a,b,c,d,e,f,g,h,i,j,k,l,m,n] (v3 fun o p q=>mz [bt] (O0 [o,p,q,bt]))) (E3 a (iv 10) (C0 108 [a,b,c,d,e,f,g,h,i,j,k,l,m,n] (v3 fun o p q=>mz [bt] (O0 [o,p,q,bt]))) (E3 a (iv 11) (C0 108 [a,b,c,d,e,f,g,h,i,j,k,l,m,n] (v3 fun o p q=>mz [bt] (O0 [o,p,q,bt]))) (C0 101 [a,b,c,d,e,f,g,h,i,j,k,l,m,n] (v3 fun o p q=>mz [bt] (O0 [o,p,q,bt]))))))
def g160b(a b c d:PV):T:=A3 c a fun e=>G3 e d (O0 [b,c,e,bt]) (O0 [b,c,d,bt])
def g122e(a b c d e f g h i j k l m n o:PV):T:=C0 134 [a,b,c,d,e,f,g,h,i,j,k] (w1 fun p=>Q0 135 [a,b,c,d,e,f,g,h,i,j,k] (C0 103 [a,b,c,d,e,f,g,h,i,j,k,m,n,o] (v3 fun q r s=>mz [bf] (O0 [q,r,s,bf]))) (N9 p e0 (Q0 136 [l,p] (C0 103 [a,b,c,d,e,f,g,h,i,j,k,m,n,o] (v3 fun q r s=>mz [bf] (O0 [q,r,s,bf]))) (C0 104 [a,b,c,d,e,f,g,h,i,j,k,m,n,o] (v3 fun q r s=>mz [bf] (O0 [q,r,s,bf])))) (C0 104 [a,b,c,d,e,f,g,h,i,j,k,m,n,o] (v3 fun q r s=>mz [bf] (O0 [q,r,s,bf])))))
def g122f(a b c d e f g h i j k l m n o:PV):T:=C0 134 [a,b,c,d,e,f,g,h,i,j,k] (w1 fun p=>Q0 135 [a,b,c,d,e,f,g,h,i,j,k] (C0 108 [a,b,c,d,e,f,g,h,i,j,k,m,n,o] (v3 fun q r s=>mz [bt] (O0 [q,r,s,bt]))) (N9 p e0 (Q0 136 [l,p] (E3 a i5 (C0 100 [a,b,c,d,e,f,g,h,i,j,k,m,n,o] (v3 fun q r s=>mz [bt] (O0 [q,r,s,bt]))) (C0 108 [a,b,c,d,e,f,g,h,i,j,k,m,n,o] (v3 fun q r s=>mz [bt] (O0 [q,r,s,bt])))) (C0 109 [a,b,c,d,e,f,g,h,i,j,k,m,n,o] (v3 fun q r s=>mz [bt] (O0 [q,r,s,bt])))) (C0 109 [a,b,c,d,e,f,g,h,i,j,k,m,n,o] (v3 fun q r s=>mz [bt] (O0 [q,r,s,bt])))))
def g147(a:PV):T:=L 190 a fun b=>D 116 [i0,b,a,i0] 0 1 (ms [e0] (v1 fun c=>mz [e0,i0,nS] (C0 245 [(.rows []),z3] (w1 fun d=>O0 [d,c])))) (ms [e0] (v1 fun c=>ms [e0,i0] (w1 fun d=>C0 245 [d,z3] (w1 fun e=>O0 [e,c]))))
def g147b0a(a b c d:PV):T:=L3 a b (X 190 c a (w2 fun e f=>M false d f fun g=>A3 a i1 fun h=>Y 117 [h,b,c,(.rows [[e]]),g])) (O0 [e0,d,e0,i0,nS])
def g147b0b(a b c d e:PV):T:=L3 a b (X 190 c a (w2 fun f g=>P 70 d (.rows [[f]]) fun h=>M false e g fun i=>A3 a i1 fun j=>Y 117 [j,b,c,h,i])) (O 1 [e0,e,e0,i0,d])
def g148(a:PV):T:=C0 245 [a,z3] (w1 fun b=>O0 [b,i0])
def g117(a b:PV):T:=A3 b i1 fun c=>O0 [a,c]
def g115(a b:PV):T:=C0 118 [(.rows [[z20]])] (w2 fun c d=>C0 119 [a,b] (w2 fun e f=>C0 118 [(.rows [[z22]])] (w2 fun g h=>C0 115 [(.rows [[c,d],[e,f],[g,h]])] (w2 fun i j=>O0 [i,j]))))
def g149(a b c d e f g h i j k:PV):T:=E3 a (iv 10) (X 25 h i0 (w11 fun l m n o p q r s t u v=>X 25 h i1 (w11 fun w x y z a0 b0 c0 d0 f0 g0 h0=>O0 [z29,l,m,n,o,p,q,r,s,t,u,v,w,x,y,z,a0,b0,c0,d0,f0,g0,h0,bt]))) (E3 a (iv 11) (X 25 h i0 (w11 fun l m n o p q r s t u v=>X 25 h i1 (w11 fun w x y z a0 b0 c0 d0 f0 g0 h0=>O0 [z30,l,m,n,o,p,q,r,s,t,u,v,w,x,y,z,a0,b0,c0,d0,f0,g0,h0,bt]))) (N3 a i5 (O0 [e0,i0,e0,i0,i0,e0,i0,nS,nS,nS,nS,i0,i0,e0,i0,i0,e0,i0,nS,nS,nS,nS,i0,bf]) (X 25 h i0 (w11 fun l m n o p q r s t u v=>N3 l i5 (O0 [e0,i0,e0,i0,i0,e0,i0,nS,nS,nS,nS,i0,i0,e0,i0,i0,e0,i0,nS,nS,nS,nS,i0,bf]) (X 25 s i0 (w11 fun w x y z a0 b0 c0 d0 f0 g0 h0=>N3 w i3 (O0 [e0,i0,e0,i0,i0,e0,i0,nS,nS,nS,nS,i0,i0,e0,i0,i0,e0,i0,nS,nS,nS,nS,i0,bf]) (Q0 242 [x] (E9 x z29 (O0 [e0,i0,e0,i0,i0,e0,i0,nS,nS,nS,nS,i0,i0,e0,i0,i0,e0,i0,nS,nS,nS,nS,i0,bf]) (E9 x z30 (O0 [e0,i0,e0,i0,i0,e0,i0,nS,nS,nS,nS,i0,i0,e0,i0,i0,e0,i0,nS,nS,nS,nS,i0,bf]) (X 25 s i1 (w11 fun j0 k0 l0 m0 n0 o0 p0 q0 r0 s0 t0=>X 25 h i1 (w11 fun u0 v0 w0 x0 y0 a1 b1 c1 d1 e1 f1=>O0 [x,j0,k0,l0,m0,n0,o0,p0,q0,r0,s0,t0,u0,v0,w0,x0,y0,a1,b1,c1,d1,e1,f1,bt]))))) (O0 [e0,i0,e0,i0,i0,e0,i0,nS,nS,nS,nS,i0,i0,e0,i0,i0,e0,i0,nS,nS,nS,nS,i0,bf]))))))))
def g152(a b c d e f g h i j k:PV):T:=E3 a i6 (O0 [bt]) (E3 a i7 (O0 [bt]) (E3 a i9 (O0 [bt]) (O0 [bf])))
def g98(a:PV):T:=Q0 242 [a] (B .add 9 z6 a fun b=>B .add 9 b z2 fun c=>O0 [c]) (O0 [a])
def g188g0(a:PV):T:=A3 a i1 fun b=>O0 [b]
def g188g1(a:PV):T:=O0 [a]
def g178(a b c d e:PV):T:=L 34 d fun f=>C0 127 [i0,f,d,i1] (w1 fun g=>O0 [g])
def g178b0a(a b c d:PV):T:=L3 a b (X 34 c a (w5 fun e f g h i=>L 34 h fun j=>G3 j i0 (C0 126 [e,f,g,h,i] (w1 fun k=>C0 124 [k] (w1 fun l=>M false d l fun m=>A3 a i1 fun n=>Y 127 [n,b,c,m]))) (C0 126 [e,f,g,h,i] (w1 fun k=>C0 125 [k] (w1 fun l=>M false d l fun m=>A3 a i1 fun n=>Y 127 [n,b,c,m]))))) (O0 [d])
def g179(a b c d:PV):T:=L 22 d fun e=>C0 129 [i0,e,d,i1,a,b,c,d] (ms [a,b,c,d] (w1 fun f=>O0 [f]))
def g179b0a(a b c d e f g h:PV):T:=L3 a b (X 22 c a (w4 fun i j k l=>E9 f z4 (C0 128 [i,j,k,l] (w1 fun m=>E3 a i1 (C0 124 [m] (w1 fun n=>M false d n fun o=>A3 a i1 fun p=>Y 129 [p,b,c,o,e,f,g,h])) (E9 j z4 (C0 124 [m] (w1 fun n=>M false d n fun o=>A3 a i1 fun p=>Y 129 [p,b,c,o,e,f,g,h])) (C0 125 [m] (w1 fun n=>M false d n fun o=>A3 a i1 fun p=>Y 129 [p,b,c,o,e,f,g,h]))))) (C0 128 [i,j,k,l] (w1 fun m=>L 22 l fun n=>G3 n i0 (C0 124 [m] (w1 fun o=>M false d o fun p=>A3 a i1 fun q=>Y 129 [q,b,c,p,e,f,g,h])) (C0 125 [m] (w1 fun o=>M false d o fun p=>A3 a i1 fun q=>Y 129 [q,b,c,p,e,f,g,h])))))) (O0 [e,f,g,h,d])
def g176g0(a b:PV):T:=C0 132 [a] (w2 fun c d=>C0 132 [b] (w2 fun e f=>N3 c e (L3 e c (O0 [bt]) (O0 [bf])) (N3 d i2 (O0 [bt]) (O0 [bf]))))
def g176g1(a b:PV):T:=C0 132 [a] (w2 fun c d=>C0 132 [b] (w2 fun e f=>N3 c e (L3 e c (O0 [bt]) (O0 [bf])) (N3 d i1 (O0 [bt]) (O0 [bf]))))
def g187(a:PV):T:=E9 a z43 (O0 [i1,i2]) (E9 a z30 (O0 [i2,i2]) (E9 a z29 (O0 [i3,i2]) (E9 a z42 (O0 [i4,i0]) (E9 a z41 (O0 [i4,i0]) (E9 a z40 (O0 [i4,i0]) (E9 a z39 (O0 [i4,i0]) (E9 a z38 (O0 [i4,i0]) (E9 a z37 (O0 [i4,i0]) (E9 a z36 (O0 [i5,i2]) (E9 a z35 (O0 [i5,i2]) (E9 a z34 (O0 [i6,i1]) (E9 a z7 (O0 [i6,i1]) (E9 a z33 (O0 [i7,i1]) (E9 a z32 (O0 [i7,i1]) (E9 a z31 (O0 [i7,i1]) (O0 [i8,i1]))))))))))))))))
def g10(a b c d e f g h i j k:PV):T:=Q0 28 [a,b,c,d,e,f,g,h,i,j,k] (C0 54 [a,b,c,d,e,f,g,h,i,j,k] (w1 fun l=>O0 [l])) (O0 [e0])
def g120(a b c d e f g h i j k:PV):T:=E3 a (iv 10) (O0 [z29]) (E3 a (iv 11) (O0 [z30]) (E3 a i5 (X 25 h i0 (w11 fun l m n o p q r s t u v=>E3 l i5 (X 25 s i0 (w11 fun w x y z a0 b0 c0 d0 f0 g0 h0=>E3 w i3 (Q0 243 [x] (N9 x z29 (N9 x z30 (O0 [x]) (O0 [e0])) (O0 [e0])) (O0 [e0])) (O0 [e0]))) (O0 [e0]))) (O0 [e0])))
def g155(a b c d e f g h i j k:PV):T:=E3 a i6 (O0 [bt]) (E3 a i7 (O0 [bt]) (E3 a i9 (O0 [bt]) (O0 [bf])))
def g157g0(a b:PV):T:=C0 150 [a] (w1 fun c=>C0 150 [b] (w1 fun d=>L3 d c (O0 [bt]) (E3 d c (C0 138 [c] (w1 fun e=>N3 e i2 (O0 [bt]) (O0 [bf]))) (O0 [bf]))))
def g157g1(a b:PV):T:=C0 150 [a] (w1 fun c=>C0 150 [b] (w1 fun d=>L3 d c (O0 [bt]) (E3 d c (C0 138 [c] (w1 fun e=>N3 e i1 (O0 [bt]) (O0 [bf]))) (O0 [bf]))))
def g143(a:PV):T:=E3 a i4 (O0 [i0]) (L3 a i6 (O0 [i2]) (O0 [i1]))
def g159(a:PV):T:=C0 140 [i0,a,z44] (w1 fun b=>B .add 9 b z44 fun c=>O0 [c])
def g159b0a(a b c:PV):T:=L 9 b fun d=>L3 a d (I 9 b a fun e=>E5 e (.lit (.int .u8 10)) (B .add 9 c z45 fun f=>A3 a i1 fun g=>Y 140 [g,b,f]) (E5 e (.lit (.int .u8 9)) (B .add 9 c z46 fun f=>A3 a i1 fun g=>Y 140 [g,b,f]) (E5 e (.lit (.int .u8 34)) (B .add 9 c z8 fun f=>A3 a i1 fun g=>S 9 b (some (.pv a)) (some (.pv g)) fun h=>B .add 9 f h fun i=>Y 140 [g,b,i]) (E5 e (.lit (.int .u8 92)) (B .add 9 c z8 fun f=>A3 a i1 fun g=>S 9 b (some (.pv a)) (some (.pv g)) fun h=>B .add 9 f h fun i=>Y 140 [g,b,i]) (A3 a i1 fun f=>S 9 b (some (.pv a)) (some (.pv f)) fun g=>B .add 9 c g fun h=>Y 140 [f,b,h]))))) (O0 [c])
def g161(a b c d e:PV):T:=C0 142 [i0,i1,a,b,c,d,e] (ms [a,b,c,d,e] (w1 fun f=>O0 [f]))
def g161b0a(a b c d e f g:PV):T:=L 34 f fun h=>L3 a h (X 34 f a (w5 fun i j k l m=>C0 141 [i,j,k,l,m] (w1 fun n=>L 34 l fun o=>G3 o i0 (A3 n i1 fun p=>G3 p b (A3 a i1 fun q=>Y 142 [q,p,c,d,e,f,g]) (A3 a i1 fun q=>Y 142 [q,b,c,d,e,f,g])) (G3 n b (A3 a i1 fun p=>Y 142 [p,n,c,d,e,f,g]) (A3 a i1 fun p=>Y 142 [p,b,c,d,e,f,g]))))) (O0 [c,d,e,f,g,b])
def g162(a b c d:PV):T:=C0 144 [i0,i1,a,b,c,d] (ms [a,b,c,d] (w1 fun e=>O0 [e]))
def g162b0a(a b c d e f:PV):T:=L 22 f fun g=>L3 a g (X 22 f a (w4 fun h i j k=>C0 143 [h,i,j,k] (w1 fun l=>E9 d z4 (E3 a i1 (A3 l i1 fun m=>G3 m b (A3 a i1 fun n=>Y 144 [n,m,c,d,e,f]) (A3 a i1 fun n=>Y 144 [n,b,c,d,e,f])) (E9 i z4 (A3 l i1 fun m=>G3 m b (A3 a i1 fun n=>Y 144 [n,m,c,d,e,f]) (A3 a i1 fun n=>Y 144 [n,b,c,d,e,f])) (N9 d z4 (L 22 k fun m=>G3 m i0 (A3 l i1 fun n=>G3 n b (A3 a i1 fun o=>Y 144 [o,n,c,d,e,f]) (A3 a i1 fun o=>Y 144 [o,b,c,d,e,f])) (G3 l b (A3 a i1 fun n=>Y 144 [n,l,c,d,e,f]) (A3 a i1 fun n=>Y 144 [n,b,c,d,e,f]))) (G3 l b (A3 a i1 fun m=>Y 144 [m,l,c,d,e,f]) (A3 a i1 fun m=>Y 144 [m,b,c,d,e,f]))))) (N9 d z4 (L 22 k fun m=>G3 m i0 (A3 l i1 fun n=>G3 n b (A3 a i1 fun o=>Y 144 [o,n,c,d,e,f]) (A3 a i1 fun o=>Y 144 [o,b,c,d,e,f])) (G3 l b (A3 a i1 fun n=>Y 144 [n,l,c,d,e,f]) (A3 a i1 fun n=>Y 144 [n,b,c,d,e,f]))) (G3 l b (A3 a i1 fun m=>Y 144 [m,l,c,d,e,f]) (A3 a i1 fun m=>Y 144 [m,b,c,d,e,f])))))) (O0 [c,d,e,f,b])
def g7(a b c d e f g h i j k l:PV):T:=A3 l i1 fun m=>C0 146 [a,b,c,d,e,f,g,h,i,j,k,m] (w1 fun n=>K3 n l (O0 [bt]) (O0 [bf]))
def g24(a b c d e f g h i j k l:PV):T:=L 22 g fun m=>A3 i1 m fun n=>C0 147 [i0,n,l,a,b,c,d,e,f,g,h,i,j,k] (ms [a,b,c,d,e,f,g,h,i,j,k] (v1 fun o=>mz [l] (C0 148 [i0,o,l,a,b,c,d,e,f,g,h,i,j,k] (ms [a,b,c,d,e,f,g,h,i,j,k] (v1 fun p=>mz [l] (C0 149 [i0,p,l,a,b,c,d,e,f,g,h,i,j,k] (ms [a,b,c,d,e,f,g,h,i,j,k] (w1 fun q=>O0 [q]))))))))
def g24b0a(a b c d e f g h i j k l m n:PV):T:=L 25 k fun o=>L3 a o (L3 b c (X 25 k a (w11 fun p q r s t u v w x y z=>S3 c b fun a0=>C0 146 [p,q,r,s,t,u,v,w,x,y,z,a0] (w1 fun b0=>A3 b b0 fun c0=>A3 a i1 fun d0=>Y 147 [d0,c0,c,d,e,f,g,h,i,j,k,l,m,n]))) (O0 [d,e,f,g,h,i,j,k,l,m,n,b,c])) (O0 [d,e,f,g,h,i,j,k,l,m,n,b,c])
def g24b2a(a b c d e f g h i j k l m n:PV):T:=L 27 m fun o=>L3 a o (L3 b c (X 27 m a (w13 fun p q r s t u v w x y z a0 b0=>S3 c b fun c0=>C0 146 [q,r,s,t,u,v,w,x,y,z,a0,c0] (w1 fun d0=>A3 i1 d0 fun f0=>A3 b f0 fun g0=>A3 a i1 fun h0=>Y 148 [h0,g0,c,d,e,f,g,h,i,j,k,l,m,n]))) (O0 [d,e,f,g,h,i,j,k,l,m,n,b,c])) (O0 [d,e,f,g,h,i,j,k,l,m,n,b,c])
def g24b4a(a b c d e f g h i j k l m n:PV):T:=L 26 l fun o=>L3 a o (L3 b c (X 26 l a (w16 fun p q r s t u v w x y z a0 b0 c0 d0 f0=>S3 c b fun g0=>L 34 s fun h0=>C0 146 [u,v,w,x,y,z,a0,b0,c0,d0,f0,g0] (w1 fun j0=>A3 i1 j0 fun k0=>A3 k0 h0 fun l0=>A3 b l0 fun m0=>A3 a i1 fun n0=>Y 149 [n0,m0,c,d,e,f,g,h,i,j,k,l,m,n]))) (O0 [d,e,f,g,h,i,j,k,l,m,n,b])) (O0 [d,e,f,g,h,i,j,k,l,m,n,b])
def g142(a:PV):T:=D 151 [i0,(.rows [[(.rows [[z43]])],[(.rows [[z30]])],[(.rows [[z29]])],[(.rows [[z42],[z41],[z40],[z39],[z38],[z37]])],[(.rows [[z36],[z35]])],[(.rows [[z34],[z7]])],[(.rows [[z33],[z32],[z31]])]]),a] 1 0 (mz [(.rows [[(.rows [[z43]])],[(.rows [[z30]])],[(.rows [[z29]])],[(.rows [[z42],[z41],[z40],[z39],[z38],[z37]])],[(.rows [[z36],[z35]])],[(.rows [[z34],[z7]])],[(.rows [[z33],[z32],[z31]])]])] (O0 [i8])) (v1 fun b=>mz [(.rows [[(.rows [[z43]])],[(.rows [[z30]])],[(.rows [[z29]])],[(.rows [[z42],[z41],[z40],[z39],[z38],[z37]])],[(.rows [[z36],[z35]])],[(.rows [[z34],[z7]])],[(.rows [[z33],[z32],[z31]])]])] (O0 [b]))
def g142b0a(a b c:PV):T:=L 188 b fun d=>L3 a d (D 152 [i0,b,a,c] 1 0 (mz [a,b,c] (A3 a i1 fun e=>Y 151 [e,b,c])) (v1 fun e=>mz [b] (O0 [e,b]))) (O 1 [b])
def g142b2a(a b c d:PV):T:=X 188 b c (w1 fun e=>L 70 e fun f=>L3 a f (X 70 e a (w1 fun g=>E9 g d (A3 c i1 fun h=>O0 [h,b]) (A3 a i1 fun h=>Y 152 [h,b,c,d]))) (O 1 [c,b,d]))
def g177(a:PV):T:=L 9 a fun b=>D 154 [i0,b,a,(.rows [[(.lit (.int .u8 34))]])] 0 1 (mz [(.rows [[(.lit (.int .u8 34))]])] (O0 [z47])) (w1 fun c=>P 126 c (.rows [[(.lit (.int .u8 34))]]) fun d=>V 126 9 d fun e=>O0 [e])
def g177b0a(a b c d:PV):T:=L3 a b (I 9 c a fun e=>C0 246 [z48,e] (w1 fun f=>L3 f i0 (P 126 d (.rows [[e]]) fun g=>A3 a i1 fun h=>Y 155 [h,b,c,g]) (I 9 z49 f fun g=>P 126 d (.rows [[(.lit (.int .u8 92))],[g]]) fun h=>A3 a i1 fun i=>Y 155 [i,b,c,h]))) (O0 [d])
def g177b0b(a b c d:PV):T:=L3 a b (I 9 c a fun e=>C0 246 [z48,e] (w1 fun f=>L3 f i0 (P 126 d (.rows [[e]]) fun g=>A3 a i1 fun h=>Y 155 [h,b,c,g]) (I 9 z49 f fun g=>P 126 d (.rows [[(.lit (.int .u8 92))],[g]]) fun h=>A3 a i1 fun i=>Y 155 [i,b,c,h]))) (O 1 [d])
def g31(a b c d e f g h i j k l m n o p:PV):T:=Q0 12 [a,b,c,d,e] (Q0 28 [f,g,h,i,j,k,l,m,n,o,p] (O0 [bt]) (O0 [bf])) (O0 [bf])
def g20(a b c d:PV):T:=Q0 175 [a] (Q0 177 [b] (Q0 179 [c] (Q0 36 [d] (O0 [bt]) (O0 [bf])) (O0 [bf])) (O0 [bf])) (O0 [bf])
def g49(a b c d e:PV):T:=Q0 237 [a] (Q0 181 [b] (L 77 c fun f=>G3 f i0 (Q0 183 [c] (Q0 185 [d] (O0 [bt]) (O0 [bf])) (O0 [bf])) (O0 [bf])) (O0 [bf])) (O0 [bf])
def g51(a b c d e f:PV):T:=Q0 237 [a] (Q0 238 [b] (Q0 185 [c] (Q0 187 [d] (Q0 36 [e] (O0 [bt]) (O0 [bf])) (O0 [bf])) (O0 [bf])) (O0 [bf])) (O0 [bf])
def g53(a b c d e f g h:PV):T:=Q0 237 [a] (Q0 11 [b,c,d,e] (Q0 189 [f] (Q0 36 [g] (O0 [bt]) (O0 [bf])) (O0 [bf])) (O0 [bf])) (O0 [bf])
def g90(a b c:PV):T:=Q0 237 [a] (Q0 24 [b] (O0 [bt]) (O0 [bf])) (O0 [bf])
def g93(a b c d e f:PV):T:=Q0 33 [a] (Q0 11 [b,c,d,e] (O0 [bt]) (O0 [bf])) (O0 [bf])
def g95(a b c d e:PV):T:=Q0 237 [a] (E3 b i1 (Q0 11 [b,c,d,e] (O0 [bt]) (O0 [bf])) (O0 [bf])) (O0 [bf])
def g21(a b c d:PV):T:=Q0 157 [a,b,c,d] (C0 191 [a] (w1 fun e=>C0 193 [b] (w1 fun f=>B .add 9 e f fun g=>C0 195 [c] (w1 fun h=>B .add 9 g h fun i=>C0 197 [d] (w1 fun j=>B .add 9 i j fun k=>O0 [k]))))) (O0 [e0])
def g55(a b c d e:PV):T:=J (P 70 (.rows [[z50],[a]]) b fun f=>C0 245 [f,z3] (w1 fun g=>L 77 c fun h=>C0 166 [i0,h,c,g,a,b,c,d,e] (ms [a,b,c,d,e] (w1 fun i=>L 70 d fun j=>G3 j i0 (C0 245 [d,z51] (w1 fun k=>B .add 9 z52 k fun l=>B .add 9 l z2 fun m=>B .add 9 i m fun n=>B .add 9 n z53 fun o=>O0 [o])) (B .add 9 i z53 fun k=>O0 [k]))))) (P0 70 (.rows [[z50],[a]]) b (C0 245 [(.rows [[z50],[a]]),z3] (w1 fun f=>L 77 c fun g=>C0 166 [i0,g,c,f,a,b,c,d,e] (ms [a,b,c,d,e] (w1 fun h=>L 70 d fun i=>G3 i i0 (C0 245 [d,z51] (w1 fun j=>B .add 9 z52 j fun k=>B .add 9 k z2 fun l=>B .add 9 h l fun m=>B .add 9 m z53 fun n=>O0 [n])) (B .add 9 h z53 fun j=>O0 [j]))))))
def g55b0a(a b c d e f g h i:PV):T:=L3 a b (X 77 c a (w3 fun j k l=>M true a i1 fun m=>X 70 (.rows [[z54],[z55]]) m (w1 fun n=>B .add 9 n j fun o=>B .add 9 d o fun p=>L 22 k fun q=>C0 167 [i0,q,k,p,a,b,c,e,f,g,h,i] (ms [e,f,g,h,i,a,b,c] (w1 fun r=>A3 a i1 fun s=>Y 166 [s,b,c,r,e,f,g,h,i]))))) (O0 [e,f,g,h,i,d])
def g55b2a(a b c d e f g h i j k l:PV):T:=L3 a b (X 22 c a (w4 fun m n o p=>C0 16 [m,n,o,p] (w1 fun q=>B .add 9 z3 q fun r=>B .add 9 d r fun s=>A3 a i1 fun t=>Y 167 [t,b,c,s,e,f,g,h,i,j,k,l]))) (O0 [h,i,j,k,l,e,f,g,d])
def g57(a b c d e f:PV):T:=B .add 9 z56 a fun g=>B .add 9 g z3 fun h=>B .add 9 h b fun i=>L 70 c fun j=>G3 j i0 (C0 245 [c,z51] (w1 fun k=>B .add 9 z57 k fun l=>B .add 9 i l fun m=>B .add 9 m z58 fun n=>L 71 d fun o=>C0 169 [i0,o,d,n,a,b,c,d,e,f] (ms [a,b,c,d,e,f] (w1 fun p=>L 27 e fun q=>C0 170 [i0,q,e,p] (w1 fun r=>B .add 9 r z59 fun s=>O0 [s]))))) (B .add 9 i z58 fun k=>L 71 d fun l=>C0 169 [i0,l,d,k,a,b,c,d,e,f] (ms [a,b,c,d,e,f] (w1 fun m=>L 27 e fun n=>C0 170 [i0,n,e,m] (w1 fun o=>B .add 9 o z59 fun p=>O0 [p]))))
def g57b0a(a b c d e f g h i j:PV):T:=L3 a b (X 71 c a (w6 fun k l m n o p=>C0 123 [k] (w1 fun q=>B .add 9 z3 q fun r=>B .add 9 r z60 fun s=>C0 14 [l,m,n,o] (w1 fun t=>B .add 9 s t fun u=>B .add 9 u z53 fun v=>B .add 9 d v fun w=>A3 a i1 fun x=>Y 169 [x,b,c,w,e,f,g,h,i,j])))) (O0 [e,f,g,h,i,j,d])
def g57b2a(a b c d:PV):T:=L3 a b (X 27 c a (w13 fun e f g h i j k l m n o p q=>C0 174 [e,f,g,h,i,j,k,l,m,n,o,p,q] (w1 fun r=>B .add 9 z3 r fun s=>B .add 9 d s fun t=>A3 a i1 fun u=>Y 170 [u,b,c,t]))) (O0 [d])
def g59(a b c d e f g h:PV):T:=B .add 9 z61 a fun i=>B .add 9 i z3 fun j=>C0 16 [b,c,d,e] (w1 fun k=>B .add 9 j k fun l=>L 74 f fun m=>C0 172 [i0,m,f,l,a,b,c,d,e,f,g,h] (ms [a,b,c,d,e,f,g,h] (w1 fun n=>B .add 9 n z58 fun o=>L 27 g fun p=>C0 173 [i0,p,g,o] (w1 fun q=>B .add 9 q z59 fun r=>O0 [r]))))
def g59b0a(a b c d e f g h i j k l:PV):T:=L3 a b (X 74 c a (w5 fun m n o p q=>M true a i1 fun r=>X 70 (.rows [[z57],[z51]]) r (w1 fun s=>B .add 9 s m fun t=>B .add 9 t z3 fun u=>B .add 9 u o fun v=>B .add 9 d v fun w=>A3 a i1 fun x=>Y 172 [x,b,c,w,e,f,g,h,i,j,k,l]))) (O0 [e,f,g,h,i,j,k,l,d])
def g59b2a(a b c d:PV):T:=L3 a b (X 27 c a (w13 fun e f g h i j k l m n o p q=>C0 174 [e,f,g,h,i,j,k,l,m,n,o,p,q] (w1 fun r=>B .add 9 z3 r fun s=>B .add 9 d s fun t=>A3 a i1 fun u=>Y 173 [u,b,c,t]))) (O0 [d])
def g61(a b c d e f g h i j k l m:PV):T:=C0 123 [a] (w1 fun n=>B .add 9 z62 n fun o=>B .add 9 o z54 fun p=>C0 54 [b,c,d,e,f,g,h,i,j,k,l] (w1 fun q=>B .add 9 p q fun r=>B .add 9 r z53 fun s=>O0 [s]))
def g48a(a:PV):T:=L 42 a fun b=>J (C 176 [i0,b,a] 1 (z (O0 [bt]))) (Q0 176 [i0,b,a] (O0 [bt]) (O0 [bf]))
def g48ab0a(a b c:PV):T:=L3 a b (X 42 c a (w5 fun d e f g h=>Q0 158 [d,e,f,g,h] (A3 a i1 fun i=>Y 176 [i,b,c]) (O0 [bf]))) (O 1 [])
def g50a(a:PV):T:=L 43 a fun b=>J (C 178 [i0,b,a] 1 (z (O0 [bt]))) (Q0 178 [i0,b,a] (O0 [bt]) (O0 [bf]))
def g50ab0a(a b c:PV):T:=L3 a b (X 43 c a (w6 fun d e f g h i=>Q0 159 [d,e,f,g,h,i] (A3 a i1 fun j=>Y 178 [j,b,c]) (O0 [bf]))) (O 1 [])
def g52a(a:PV):T:=L 44 a fun b=>J (C 180 [i0,b,a] 1 (z (O0 [bt]))) (Q0 180 [i0,b,a] (O0 [bt]) (O0 [bf]))
def g52ab0a(a b c:PV):T:=L3 a b (X 44 c a (w8 fun d e f g h i j k=>Q0 160 [d,e,f,g,h,i,j,k] (A3 a i1 fun l=>Y 180 [l,b,c]) (O0 [bf]))) (O 1 [])
def g91a(a:PV):T:=L 70 a fun b=>J (C 182 [i0,b,a] 1 (z (O0 [bt]))) (Q0 182 [i0,b,a] (O0 [bt]) (O0 [bf]))
def g91ab0a(a b c:PV):T:=L3 a b (X 70 c a (w1 fun d=>Q0 238 [d] (A3 a i1 fun e=>Y 182 [e,b,c]) (O0 [bf]))) (O 1 [])
def g92a(a:PV):T:=L 77 a fun b=>J (C 184 [i0,b,a] 1 (z (O0 [bt]))) (Q0 184 [i0,b,a] (O0 [bt]) (O0 [bf]))
def g92ab0a(a b c:PV):T:=L3 a b (X 77 c a (w3 fun d e f=>Q0 161 [d,e,f] (A3 a i1 fun g=>Y 184 [g,b,c]) (O0 [bf]))) (O 1 [])
def g91b(a:PV):T:=L 70 a fun b=>J (C 186 [i0,b,a] 1 (z (O0 [bt]))) (Q0 186 [i0,b,a] (O0 [bt]) (O0 [bf]))
def g91bb0a(a b c:PV):T:=L3 a b (X 70 c a (w1 fun d=>Q0 237 [d] (A3 a i1 fun e=>Y 186 [e,b,c]) (O0 [bf]))) (O 1 [])
def g94a(a:PV):T:=L 71 a fun b=>J (C 188 [i0,b,a] 1 (z (O0 [bt]))) (Q0 188 [i0,b,a] (O0 [bt]) (O0 [bf]))
def g94ab0a(a b c:PV):T:=L3 a b (X 71 c a (w6 fun d e f g h i=>Q0 162 [d,e,f,g,h,i] (A3 a i1 fun j=>Y 188 [j,b,c]) (O0 [bf]))) (O 1 [])
def g96a(a:PV):T:=L 74 a fun b=>J (C 190 [i0,b,a] 1 (z (O0 [bt]))) (Q0 190 [i0,b,a] (O0 [bt]) (O0 [bf]))
def g96ab0a(a b c:PV):T:=L3 a b (X 74 c a (w5 fun d e f g h=>Q0 163 [d,e,f,g,h] (A3 a i1 fun i=>Y 190 [i,b,c]) (O0 [bf]))) (O 1 [])
def g54a(a:PV):T:=L 42 a fun b=>C0 192 [i0,b,a,e0] (w1 fun c=>O0 [c])
def g54ab0a(a b c d:PV):T:=L3 a b (X 42 c a (w5 fun e f g h i=>C0 165 [e,f,g,h,i] (w1 fun j=>B .add 9 j z63 fun k=>B .add 9 d k fun l=>A3 a i1 fun m=>Y 192 [m,b,c,l]))) (O0 [d])
def g56a(a:PV):T:=L 43 a fun b=>C0 194 [i0,b,a,e0] (w1 fun c=>O0 [c])
def g56ab0a(a b c d:PV):T:=L3 a b (X 43 c a (w6 fun e f g h i j=>C0 168 [e,f,g,h,i,j] (w1 fun k=>B .add 9 k z63 fun l=>B .add 9 d l fun m=>A3 a i1 fun n=>Y 194 [n,b,c,m]))) (O0 [d])
def g58a(a:PV):T:=L 44 a fun b=>C0 196 [i0,b,a,e0] (w1 fun c=>O0 [c])
def g58ab0a(a b c d:PV):T:=L3 a b (X 44 c a (w8 fun e f g h i j k l=>C0 171 [e,f,g,h,i,j,k,l] (w1 fun m=>B .add 9 m z63 fun n=>B .add 9 d n fun o=>A3 a i1 fun p=>Y 196 [p,b,c,o]))) (O0 [d])
def g60a(a:PV):T:=L 27 a fun b=>C0 198 [i0,b,a,e0] (w1 fun c=>O0 [c])
def g60ab0a(a b c d:PV):T:=L3 a b (X 27 c a (w13 fun e f g h i j k l m n o p q=>C0 174 [e,f,g,h,i,j,k,l,m,n,o,p,q] (w1 fun r=>B .add 9 r z63 fun s=>B .add 9 d s fun t=>A3 a i1 fun u=>Y 198 [u,b,c,t]))) (O0 [d])
def g18(a b c d:PV):T:=L 42 a fun e=>G3 e (iv 20) (O0 [bf]) (L 43 b fun f=>G3 f (iv 20) (O0 [bf]) (L 44 c fun g=>G3 g (iv 20) (O0 [bf]) (L 27 d fun h=>G3 h (iv 40) (O0 [bf]) (J (C 200 [i0,f,b,a,b,c,d] 1 (mz [a,b,c,d] (J (C 202 [i0,g,c,a,b,c,d] 1 (mz [a,b,c,d] (J (C 204 [i0,e,a,a,b,c,d] 1 (mz [a,b,c,d] (J (C 205 [i0,h,d] 1 (z (O0 [bt]))) (Q0 205 [i0,h,d] (O0 [bt]) (O0 [bf]))))) (D 204 [i0,e,a,a,b,c,d] 0 0 (mz [a,b,c,d,bt] (O0 [bt])) (mz [a,b,c,d,bf] (O0 [bf])))))) (D 202 [i0,g,c,a,b,c,d] 0 0 (mz [a,b,c,d,bt] (O0 [bt])) (mz [a,b,c,d,bf] (O0 [bf])))))) (D 200 [i0,f,b,a,b,c,d] 0 0 (mz [a,b,c,d,bt] (O0 [bt])) (mz [a,b,c,d,bf] (O0 [bf])))))))
def g18b0a(a b c d e f g:PV):T:=L3 a b (X 43 c a (w6 fun h i j k l m=>L 71 k fun n=>G3 n (iv 20) (O0 [d,e,f,g,bf]) (L 27 l fun o=>G3 o (iv 20) (O0 [d,e,f,g,bf]) (L 70 j fun p=>G3 p (iv 20) (O0 [d,e,f,g,bf]) (J (C 201 [i0,o,l,a,b,c,d,e,f,g] 1 (mz [d,e,f,g,a,b,c] (A3 a i1 fun q=>Y 200 [q,b,c,d,e,f,g]))) (D 201 [i0,o,l,a,b,c,d,e,f,g] 0 0 (mz [d,e,f,g,bt] (O0 [d,e,f,g,bt])) (mz [d,e,f,g,bf] (O0 [d,e,f,g,bf])))))))) (O 1 [d,e,f,g])
def g18b2a(a b c d e f g h i j:PV):T:=L3 a b (X 27 c a (w13 fun k l m n o p q r s t u v w=>Q0 145 [l,m,n,o,p,q,r,s,t,u,v,(iv 400)] (A3 a i1 fun x=>Y 201 [x,b,c,d,e,f,g,h,i,j]) (O0 [g,h,i,j,bf]))) (O 1 [g,h,i,j,d,e,f])
def g18b4a(a b c d e f g:PV):T:=L3 a b (X 44 c a (w8 fun h i j k l m n o=>L 27 n fun p=>G3 p (iv 20) (O0 [d,e,f,g,bf]) (L 74 m fun q=>G3 q (iv 20) (O0 [d,e,f,g,bf]) (L 22 l fun r=>G3 r (iv 20) (O0 [d,e,f,g,bf]) (J (C 203 [i0,p,n,a,b,c,d,e,f,g] 1 (mz [d,e,f,g,a,b,c] (A3 a i1 fun s=>Y 202 [s,b,c,d,e,f,g]))) (D 203 [i0,p,n,a,b,c,d,e,f,g] 0 0 (mz [d,e,f,g,bt] (O0 [d,e,f,g,bt])) (mz [d,e,f,g,bf] (O0 [d,e,f,g,bf])))))))) (O 1 [d,e,f,g])
def g18b6a(a b c d e f g h i j:PV):T:=L3 a b (X 27 c a (w13 fun k l m n o p q r s t u v w=>Q0 145 [l,m,n,o,p,q,r,s,t,u,v,(iv 400)] (A3 a i1 fun x=>Y 203 [x,b,c,d,e,f,g,h,i,j]) (O0 [g,h,i,j,bf]))) (O 1 [g,h,i,j,d,e,f])
def g18b8a(a b c d e f g:PV):T:=L3 a b (X 42 c a (w5 fun h i j k l=>L 77 j fun m=>G3 m (iv 20) (O0 [d,e,f,g,bf]) (L 70 i fun n=>G3 n (iv 20) (O0 [d,e,f,g,bf]) (L 70 k fun o=>G3 o (iv 20) (O0 [d,e,f,g,bf]) (A3 a i1 fun p=>Y 204 [p,b,c,d,e,f,g]))))) (O 1 [d,e,f,g])
def g18b10a(a b c:PV):T:=L3 a b (X 27 c a (w13 fun d e f g h i j k l m n o p=>Q0 145 [e,f,g,h,i,j,k,l,m,n,o,(iv 1000)] (A3 a i1 fun q=>Y 205 [q,b,c]) (O0 [bf]))) (O 1 [])
def g19(a b c d:PV):T:=J (C 207 [i0,a,b,c,d] 1 (mz [a,b,c,d] (J (C 208 [i0,a,b,c,d] 1 (mz [a,b,c,d] (J (C 209 [i0,a,b,c,d] 1 (mz [a,b,c,d] (Q0 44 [d] (O0 [bt]) (O0 [bf])))) (D 209 [i0,a,b,c,d] 0 0 (mz [a,b,c,d,bt] (O0 [bt])) (mz [a,b,c,d,bf] (O0 [bf])))))) (D 208 [i0,a,b,c,d] 0 0 (mz [a,b,c,d,bt] (O0 [bt])) (mz [a,b,c,d,bf] (O0 [bf])))))) (D 207 [i0,a,b,c,d] 0 0 (mz [a,b,c,d,bt] (O0 [bt])) (mz [a,b,c,d,bf] (O0 [bf])))
def g19b0a(a b c d e:PV):T:=L 42 b fun f=>L3 a f (X 42 b a (w5 fun g h i j k=>Q0 210 [g,h,i,j,k] (A3 a i1 fun l=>Y 207 [l,b,c,d,e]) (O0 [b,c,d,e,bf]))) (O 1 [b,c,d,e])
def g19b2a(a b c d e:PV):T:=L 43 c fun f=>L3 a f (X 43 c a (w6 fun g h i j k l=>Q0 214 [g,h,i,j,k,l] (A3 a i1 fun m=>Y 208 [m,b,c,d,e]) (O0 [b,c,d,e,bf]))) (O 1 [b,c,d,e])
def g19b4a(a b c d e:PV):T:=L 44 d fun f=>L3 a f (X 44 d a (w8 fun g h i j k l m n=>Q0 216 [g,h,i,j,k,l,m,n] (A3 a i1 fun o=>Y 209 [o,b,c,d,e]) (O0 [b,c,d,e,bf]))) (O 1 [b,c,d,e])
def g45(a b c d e:PV):T:=Q0 239 [a] (L 77 c fun f=>E3 f i0 (O0 [bf]) (Q0 218 [d] (J (C 211 [i0,a,b,c,d,e] 1 (mz [a,b,c,d,e] (J (C 212 [i0,a,b,c,d,e] 1 (mz [a,b,c,d,e] (O0 [bt]))) (D 212 [i0,a,b,c,d,e] 0 0 (mz [a,b,c,d,e,bt] (O0 [bt])) (mz [a,b,c,d,e,bf] (O0 [bf])))))) (D 211 [i0,a,b,c,d,e] 0 0 (mz [a,b,c,d,e,bt] (O0 [bt])) (mz [a,b,c,d,e,bf] (O0 [bf])))) (O0 [bf]))) (O0 [bf])
def g45b0a(a b c d e f:PV):T:=L 70 c fun g=>L3 a g (X 70 c a (w1 fun h=>Q0 240 [h] (A3 a i1 fun i=>Y 211 [i,b,c,d,e,f]) (O0 [b,c,d,e,f,bf]))) (O 1 [b,c,d,e,f])
def g45b2a(a b c d e f:PV):T:=L 77 d fun g=>L3 a g (X 77 d a (w3 fun h i j=>Q0 239 [h] (J (C 213 [i0,a,b,c,d,e,f] 1 (mz [b,c,d,e,f,a] (A3 a i1 fun k=>Y 212 [k,b,c,d,e,f]))) (D 213 [i0,a,b,c,d,e,f] 0 0 (mz [b,c,d,e,f,bt] (O0 [b,c,d,e,f,bt])) (mz [b,c,d,e,f,bf] (O0 [b,c,d,e,f,bf])))) (O0 [b,c,d,e,f,bf]))) (O 1 [b,c,d,e,f])
def g45b4a(a b c d e f g:PV):T:=X 77 e b (w3 fun h i j=>L 22 i fun k=>L3 a k (X 22 i a (w4 fun l m n o=>Q0 4 [l,m,n,o] (A3 a i1 fun p=>Y 213 [p,b,c,d,e,f,g]) (O0 [c,d,e,f,g,bf]))) (O 1 [c,d,e,f,g,b]))
def g46(a b c d e f:PV):T:=J (C 215 [i0,a,b,c,d,e,f] 1 (mz [a,b,c,d,e,f] (Q0 239 [a] (Q0 240 [b] (Q0 218 [c] (Q0 44 [e] (O0 [bt]) (O0 [bf])) (O0 [bf])) (O0 [bf])) (O0 [bf])))) (D 215 [i0,a,b,c,d,e,f] 0 0 (mz [a,b,c,d,e,f,bt] (O0 [bt])) (mz [a,b,c,d,e,f,bf] (O0 [bf])))
def g46b0a(a b c d e f g:PV):T:=L 71 e fun h=>L3 a h (X 71 e a (w6 fun i j k l m n=>Q0 48 [i] (Q0 4 [j,k,l,m] (A3 a i1 fun o=>Y 215 [o,b,c,d,e,f,g]) (O0 [b,c,d,e,f,g,bf])) (O0 [b,c,d,e,f,g,bf]))) (O 1 [b,c,d,e,f,g])
def g47(a b c d e f g h:PV):T:=J (C 217 [i0,a,b,c,d,e,f,g,h] 1 (mz [a,b,c,d,e,f,g,h] (Q0 239 [a] (Q0 4 [b,c,d,e] (Q0 44 [g] (O0 [bt]) (O0 [bf])) (O0 [bf])) (O0 [bf])))) (D 217 [i0,a,b,c,d,e,f,g,h] 0 0 (mz [a,b,c,d,e,f,g,h,bt] (O0 [bt])) (mz [a,b,c,d,e,f,g,h,bf] (O0 [bf])))
def g47b0a(a b c d e f g h i:PV):T:=L 74 g fun j=>L3 a j (X 74 g a (w5 fun k l m n o=>Q0 239 [k] (N3 l i1 (O0 [b,c,d,e,f,g,h,i,bf]) (Q0 4 [l,m,n,o] (A3 a i1 fun p=>Y 217 [p,b,c,d,e,f,g,h,i]) (O0 [b,c,d,e,f,g,h,i,bf]))) (O0 [b,c,d,e,f,g,h,i,bf]))) (O 1 [b,c,d,e,f,g,h,i])
def g89(a:PV):T:=J (C 219 [i0,a] 1 (z (O0 [bt]))) (Q0 219 [i0,a] (O0 [bt]) (O0 [bf]))
def g89b0a(a b:PV):T:=L 70 b fun c=>L3 a c (X 70 b a (w1 fun d=>Q0 239 [d] (A3 a i1 fun e=>Y 219 [e,b]) (O0 [bf]))) (O 1 [])
def g64(a b c d e f g h i j k l m:PV):T:=C0 49 [a] (w1 fun n=>B .add 9 z62 n fun o=>B .add 9 o z54 fun p=>C0 84 [b,c,d,e,f,g,h,i,j,k,l] (w1 fun q=>B .add 9 p q fun r=>B .add 9 r z53 fun s=>O0 [s]))
def g62(a b c:PV):T:=C0 222 [i0,a,e0,b,c] (w1 fun d=>O0 [d])
def g62b0a(a b c d e:PV):T:=L 70 b fun f=>L3 a f (E3 a i0 (B .add 9 c d fun g=>X 70 b a (w1 fun h=>B .add 9 g h fun i=>A3 a i1 fun j=>Y 222 [j,b,i,d,e])) (B .add 9 c e fun g=>X 70 b a (w1 fun h=>B .add 9 g h fun i=>A3 a i1 fun j=>Y 222 [j,b,i,d,e]))) (O0 [c])
def g22(a b c d:PV):T:=C0 224 [i0,e0,a,b,c,d] (ms [a,b,c,d] (w1 fun e=>C0 229 [i0,e,a,b,c,d] (ms [a,b,c,d] (w1 fun f=>C0 232 [i0,f,a,b,c,d] (ms [a,b,c,d] (w1 fun g=>C0 236 [i0,g,a,b,c,d] (ms [a,b,c,d] (w1 fun h=>O0 [h]))))))))
def g22b0a(a b c d e f:PV):T:=L 42 c fun g=>L3 a g (X 42 c a (w5 fun h i j k l=>D 225 [i0,b,a,h,i,j,k,l,c,d,e,f] 0 1 (mz [h,i,j,k,l,c,d,e,f,b,nS,a] (B .add 9 b z64 fun m=>B .add 9 m h fun n=>C0 221 [i,z3,z3] (w1 fun o=>B .add 9 n o fun p=>C0 221 [(.rows []),z54,z55] (w1 fun q=>B .add 9 p q fun r=>L 70 k fun s=>G3 s i0 (C0 221 [k,z52,z51] (w1 fun t=>B .add 9 r t fun u=>B .add 9 u z2 fun v=>B .add 9 v z65 fun w=>A3 a i1 fun x=>Y 224 [x,w,c,d,e,f])) (B .add 9 r z65 fun t=>A3 a i1 fun u=>Y 224 [u,t,c,d,e,f]))))) (ms [h,i,j,k,l,c,d,e,f,b] (v1 fun m=>mz [a] (B .add 9 b z64 fun n=>B .add 9 n h fun o=>C0 221 [i,z3,z3] (w1 fun p=>B .add 9 o p fun q=>C0 221 [m,z54,z55] (w1 fun r=>B .add 9 q r fun s=>L 70 k fun t=>G3 t i0 (C0 221 [k,z52,z51] (w1 fun u=>B .add 9 s u fun v=>B .add 9 v z2 fun w=>B .add 9 w z65 fun x=>A3 a i1 fun y=>Y 224 [y,x,c,d,e,f])) (B .add 9 s z65 fun u=>A3 a i1 fun v=>Y 224 [v,u,c,d,e,f])))))))) (O0 [c,d,e,f,b])
def g22b2a(a b c d e f g h i j k l:PV):T:=L 77 f fun m=>L3 a m (X 77 f a (w3 fun n o p=>C0 227 [i0,a,n,b,c,d,e,f,g,h,i,j,k,l] (ms [d,e,f,g,h,i,j,k,l,nS] (v1 fun q=>mz [a,b,c] (A3 a i1 fun r=>Y 226 [r,(.rows [[q]]),b,c,d,e,f,g,h,i,j,k,l]))))) (O0 [d,e,f,g,h,i,j,k,l,b,nS,c])
def g22b2b(a b c d e f g h i j k l m:PV):T:=L 77 g fun n=>L3 a n (X 77 g a (w3 fun o p q=>C0 228 [i0,a,o,b,c,d,e,f,g,h,i,j,k,l,m] (ms [e,f,g,h,i,j,k,l,m,b] (v1 fun r=>mz [a,c,d] (P 70 b (.rows [[r]]) fun s=>A3 a i1 fun t=>Y 226 [t,s,c,d,e,f,g,h,i,j,k,l,m]))))) (O 1 [e,f,g,h,i,j,k,l,m,c,b,d])
def g22b4a(a b c d e f g h i j k l m n:PV):T:=X 77 h b (w3 fun o p q=>L 22 p fun r=>L3 a r (B .add 9 c z3 fun s=>X 22 p a (w4 fun t u v w=>C0 13 [t,u,v,w] (w1 fun x=>B .add 9 s x fun y=>A3 a i1 fun z=>Y 227 [z,b,y,d,e,f,g,h,i,j,k,l,m,n]))) (O0 [f,g,h,i,j,k,l,m,n,nS,c,b,d,e]))
def g22b4b(a b c d e f g h i j k l m n o:PV):T:=X 77 i b (w3 fun p q r=>L 22 q fun s=>L3 a s (B .add 9 c z3 fun t=>X 22 q a (w4 fun u v w x=>C0 13 [u,v,w,x] (w1 fun y=>B .add 9 t y fun z=>A3 a i1 fun a0=>Y 228 [a0,b,z,d,e,f,g,h,i,j,k,l,m,n,o]))) (O0 [g,h,i,j,k,l,m,n,o,d,c,b,e,f]))
def g22b6a(a b c d e f:PV):T:=L 43 d fun g=>L3 a g (X 43 d a (w6 fun h i j k l m=>B .add 9 b z56 fun n=>B .add 9 n h fun o=>B .add 9 o z3 fun p=>B .add 9 p i fun q=>C0 221 [j,z57,z51] (w1 fun r=>B .add 9 q r fun s=>B .add 9 s z66 fun t=>C0 230 [i0,t,a,h,i,j,k,l,m,c,d,e,f] (ms [h,i,j,k,l,m,c,d,e,f] (v1 fun u=>mz [a] (C0 231 [i0,u,a,h,i,j,k,l,m,c,d,e,f] (ms [h,i,j,k,l,m,c,d,e,f] (v1 fun v=>mz [a] (B .add 9 v z67 fun w=>A3 a i1 fun x=>Y 229 [x,w,c,d,e,f]))))))))) (O0 [c,d,e,f,b])
def g22b8a(a b c d e f g h i j k l m:PV):T:=L 71 g fun n=>L3 a n (X 71 g a (w6 fun o p q r s t=>C0 49 [o] (w1 fun u=>B .add 9 b u fun v=>B .add 9 v z60 fun w=>C0 6 [p,q,r,s] (w1 fun x=>B .add 9 w x fun y=>B .add 9 y z68 fun z=>A3 a i1 fun a0=>Y 230 [a0,z,c,d,e,f,g,h,i,j,k,l,m])))) (O0 [d,e,f,g,h,i,j,k,l,m,b,c])
def g22b10a(a b c d e f g h i j k l m:PV):T:=L 27 h fun n=>L3 a n (X 27 h a (w13 fun o p q r s t u v w x y z a0=>C0 220 [o,p,q,r,s,t,u,v,w,x,y,z,a0] (w1 fun b0=>B .add 9 b b0 fun c0=>B .add 9 c0 z3 fun d0=>A3 a i1 fun f0=>Y 231 [f0,d0,c,d,e,f,g,h,i,j,k,l,m]))) (O0 [d,e,f,g,h,i,j,k,l,m,b,c])
def g22b12a(a b c d e f:PV):T:=L 44 e fun g=>L3 a g (X 44 e a (w8 fun h i j k l m n o=>D 233 [i0,b,a,h,i,j,k,l,m,n,o,c,d,e,f] 0 1 (mz [h,i,j,k,l,m,n,o,c,d,e,f,b,nS,a] (B .add 9 b z61 fun p=>B .add 9 p h fun q=>B .add 9 q z3 fun r=>C0 13 [i,j,k,l] (w1 fun s=>B .add 9 r s fun t=>C0 221 [(.rows []),z57,z51] (w1 fun u=>B .add 9 t u fun v=>B .add 9 v z66 fun w=>C0 235 [i0,w,a,h,i,j,k,l,m,n,o,c,d,e,f] (ms [h,i,j,k,l,m,n,o,c,d,e,f] (v1 fun x=>mz [a] (B .add 9 x z67 fun y=>A3 a i1 fun z=>Y 232 [z,y,c,d,e,f]))))))) (ms [h,i,j,k,l,m,n,o,c,d,e,f,b] (v1 fun p=>mz [a] (B .add 9 b z61 fun q=>B .add 9 q h fun r=>B .add 9 r z3 fun s=>C0 13 [i,j,k,l] (w1 fun t=>B .add 9 s t fun u=>C0 221 [p,z57,z51] (w1 fun v=>B .add 9 u v fun w=>B .add 9 w z66 fun x=>C0 235 [i0,x,a,h,i,j,k,l,m,n,o,c,d,e,f] (ms [h,i,j,k,l,m,n,o,c,d,e,f] (v1 fun y=>mz [a] (B .add 9 y z67 fun z=>A3 a i1 fun a0=>Y 232 [a0,z,c,d,e,f])))))))))) (O0 [c,d,e,f,b])
def g22b14a(a b c d e f g h i j k l m n o:PV):T:=L 74 i fun p=>L3 a p (X 74 i a (w5 fun q r s t u=>B .add 9 q z3 fun v=>B .add 9 v s fun w=>A3 a i1 fun x=>Y 234 [x,(.rows [[w]]),b,c,d,e,f,g,h,i,j,k,l,m,n,o])) (O0 [d,e,f,g,h,i,j,k,l,m,n,o,b,nS,c])
def g22b14b(a b c d e f g h i j k l m n o p:PV):T:=L 74 j fun q=>L3 a q (X 74 j a (w5 fun r s t u v=>B .add 9 r z3 fun w=>B .add 9 w t fun x=>P 70 b (.rows [[x]]) fun y=>A3 a i1 fun z=>Y 234 [z,y,c,d,e,f,g,h,i,j,k,l,m,n,o,p])) (O 1 [e,f,g,h,i,j,k,l,m,n,o,p,c,b,d])
def g22b16a(a b c d e f g h i j k l m n o:PV):T:=L 27 j fun p=>L3 a p (X 27 j a (w13 fun q r s t u v w x y z a0 b0 c0=>C0 220 [q,r,s,t,u,v,w,x,y,z,a0,b0,c0] (w1 fun d0=>B .add 9 b d0 fun f0=>B .add 9 f0 z3 fun g0=>A3 a i1 fun h0=>Y 235 [h0,g0,c,d,e,f,g,h,i,j,k,l,m,n,o]))) (O0 [d,e,f,g,h,i,j,k,l,m,n,o,b,c])
def g22b18a(a b c d e f:PV):T:=L 27 f fun g=>L3 a g (X 27 f a (w13 fun h i j k l m n o p q r s t=>C0 220 [h,i,j,k,l,m,n,o,p,q,r,s,t] (w1 fun u=>B .add 9 b u fun v=>B .add 9 v z63 fun w=>A3 a i1 fun x=>Y 236 [x,w,c,d,e,f]))) (O0 [c,d,e,f,b])
end
def k1(g:PV→Rf):Et:=g (.sym 0) 1
def k2(g:PV→PV→Rf):Et:=g (.sym 0) (.sym 1) 2
def k3(g:PV→PV→PV→Rf):Et:=g (.sym 0) (.sym 1) (.sym 2) 3
def k4(g:PV→PV→PV→PV→Rf):Et:=g (.sym 0) (.sym 1) (.sym 2) (.sym 3) 4
def k5(g:PV→PV→PV→PV→PV→Rf):Et:=g (.sym 0) (.sym 1) (.sym 2) (.sym 3) (.sym 4) 5
def k6(g:PV→PV→PV→PV→PV→PV→Rf):Et:=g (.sym 0) (.sym 1) (.sym 2) (.sym 3) (.sym 4) (.sym 5) 6
def k7(g:PV→PV→PV→PV→PV→PV→PV→Rf):Et:=g (.sym 0) (.sym 1) (.sym 2) (.sym 3) (.sym 4) (.sym 5) (.sym 6) 7
def k8(g:PV→PV→PV→PV→PV→PV→PV→PV→Rf):Et:=g (.sym 0) (.sym 1) (.sym 2) (.sym 3) (.sym 4) (.sym 5) (.sym 6) (.sym 7) 8
def k9(g:PV→PV→PV→PV→PV→PV→PV→PV→PV→Rf):Et:=g (.sym 0) (.sym 1) (.sym 2) (.sym 3) (.sym 4) (.sym 5) (.sym 6) (.sym 7) (.sym 8) 9
def k10(g:PV→PV→PV→PV→PV→PV→PV→PV→PV→PV→Rf):Et:=g (.sym 0) (.sym 1) (.sym 2) (.sym 3) (.sym 4) (.sym 5) (.sym 6) (.sym 7) (.sym 8) (.sym 9) 10
def k11(g:PV→PV→PV→PV→PV→PV→PV→PV→PV→PV→PV→Rf):Et:=g (.sym 0) (.sym 1) (.sym 2) (.sym 3) (.sym 4) (.sym 5) (.sym 6) (.sym 7) (.sym 8) (.sym 9) (.sym 10) 11
def k12(g:PV→PV→PV→PV→PV→PV→PV→PV→PV→PV→PV→PV→Rf):Et:=g (.sym 0) (.sym 1) (.sym 2) (.sym 3) (.sym 4) (.sym 5) (.sym 6) (.sym 7) (.sym 8) (.sym 9) (.sym 10) (.sym 11) 12
def k13(g:PV→PV→PV→PV→PV→PV→PV→PV→PV→PV→PV→PV→PV→Rf):Et:=g (.sym 0) (.sym 1) (.sym 2) (.sym 3) (.sym 4) (.sym 5) (.sym 6) (.sym 7) (.sym 8) (.sym 9) (.sym 10) (.sym 11) (.sym 12) 13
def k14(g:PV→PV→PV→PV→PV→PV→PV→PV→PV→PV→PV→PV→PV→PV→Rf):Et:=g (.sym 0) (.sym 1) (.sym 2) (.sym 3) (.sym 4) (.sym 5) (.sym 6) (.sym 7) (.sym 8) (.sym 9) (.sym 10) (.sym 11) (.sym 12) (.sym 13) 14
def k15(g:PV→PV→PV→PV→PV→PV→PV→PV→PV→PV→PV→PV→PV→PV→PV→Rf):Et:=g (.sym 0) (.sym 1) (.sym 2) (.sym 3) (.sym 4) (.sym 5) (.sym 6) (.sym 7) (.sym 8) (.sym 9) (.sym 10) (.sym 11) (.sym 12) (.sym 13) (.sym 14) 15
def k16(g:PV→PV→PV→PV→PV→PV→PV→PV→PV→PV→PV→PV→PV→PV→PV→PV→Rf):Et:=g (.sym 0) (.sym 1) (.sym 2) (.sym 3) (.sym 4) (.sym 5) (.sym 6) (.sym 7) (.sym 8) (.sym 9) (.sym 10) (.sym 11) (.sym 12) (.sym 13) (.sym 14) (.sym 15) 16
def k17(g:PV→PV→PV→PV→PV→PV→PV→PV→PV→PV→PV→PV→PV→PV→PV→PV→PV→Rf):Et:=g (.sym 0) (.sym 1) (.sym 2) (.sym 3) (.sym 4) (.sym 5) (.sym 6) (.sym 7) (.sym 8) (.sym 9) (.sym 10) (.sym 11) (.sym 12) (.sym 13) (.sym 14) (.sym 15) (.sym 16) 17
def pR:Nat→Nat→List PV
 |_,0=>[]
 |a,n+1=>.sym a::pR (a+1) n
def wR:Nat→Nat→List AV
 |_,0=>[]
 |a,n+1=>.pv (.sym a)::wR (a+1) n
def nA:AV:=.pv nS
def eA:AV:=.pv e0
def zA:AV:=.pv i0
def tA:AV:=.pv bt
def fA:AV:=.pv bf
def rA(n:Nat):AV:=.ptr n 0
def tk(t s n:Nat):AObj:=.tok t s (symBase+n)
def eF(f:Nat)(a:List AV)(h:List AObj)(n m:Nat):Ent:={f:=f,args:=a,h:=h,n:=n,fam:=m }
def eL(a b f:Nat)(e:Env)(h:List AObj)(n m:Nat):Ent:={lp:=some (a,b),f:=f,e:=e,h:=h,n:=n,fam:=m }
def rn(r:List Nat)(e:Ent):Ent:={e with rin:=r }
def yU(v:AV)(m:Nat):Shape:={v:=v,m:=m }
def yV(v:AV)(h:List AObj)(m:Nat):Shape:={v:=v,h:=h,m:=m }
def yE(x:AExit)(e:Env)(h:List AObj)(m:Nat):Shape:={ex:=x,e:=e,h:=h,m:=m }
def yR(x:AExit)(e:Env)(h:List AObj)(m:Nat)(r:List Nat):Shape:={ex:=x,e:=e,h:=h,m:=m,rw:=r }
def b118_2(a:Nat):AObj:=.box 118 (wR a 2)
def b24_4(a:Nat):AObj:=.box 24 (wR a 4)
def b29_11(a:Nat):AObj:=.box 29 (wR a 11)
def b36_5(a:Nat):AObj:=.box 36 (wR a 5)
def b46_4(a:Nat):AObj:=.box 46 (wR a 4)
def b66_4(a:Nat):AObj:=.box 66 (wR a 4)
def b73_6(a:Nat):AObj:=.box 73 (wR a 6)
def b76_8(a:Nat):AObj:=.box 76 (wR a 8)
def b79_5(a:Nat):AObj:=.box 79 (wR a 5)
def o0:AV:=.pv (.sym 0)
def o1:AV:=.pv (.sym 1)
def o2:AV:=.pv (.sym 2)
def o3:AV:=.pv (.sym 3)
def o4:AV:=.pv (.sym 4)
def o5:AV:=.pv (.sym 5)
def o6:AV:=.pv (.sym 6)
def o7:AV:=.pv (.sym 7)
def o8:AV:=.pv (.sym 8)
def o9:AV:=.pv (.sym 9)
def o10:AV:=.pv (.sym 10)
def o11:AV:=.pv (.sym 11)
def o12:AV:=.pv (.sym 12)
def o13:AV:=.pv (.sym 13)
def o14:AV:=.pv (.sym 14)
def o23:AV:=.pv (.sym 23)
def y0:List AV:=[(.fn 1099511627854 [(.ptr 0 0)])]
def y1:List AV:=[(.fn 1099511627852 [(.ptr 0 0)])]
def y2:List Shape:=[yV (.tup []) [b66_4 0] 4]
def y3:List AV:=[(rA 0),(.agg (wR 0 11))]
def y4:List Shape:=[yE .ret [(4,o0)] [] 1,yE (.exit 0) [] [] 0]
def y5:List Shape:=[yV (.agg [o0,o1]) [.box 116 y0] 2]
def y6:List Shape:=[yV (.agg [o0,o1]) [.box 116 y1] 2]
def y7:List AV:=[(.agg (wR 0 4))]
def y8:List AV:=[(.agg (wR 0 11))]
def y9:List AObj:=[.box 66 (wR 11 3++[fA])]
def y10:List AObj:=[.box 66 (wR 11 3++[tA])]
def y11:List AV:=[(.agg (wR 0 5))]
def y12:List AV:=[(rA 0),(.agg (wR 0 11)),o11,fA,fA]
def y13:List AV:=[(rA 0),(.agg (wR 0 11)),o11,tA,tA]
def y14:List AV:=[(rA 0),(.agg (wR 0 11)),o11,tA,fA]
def y15:Env:=[(3,o0),(1,(rA 0))]
def y16:Env:=[(4,o0),(1,(rA 0)),(3,o1)]
def y17:List Shape:=[yE .ret [(2,o0)] [] 1,yE (.exit 0) [] [] 0]
def y18:Env:=[(7,o0),(4,(rA 0)),(0,(rA 1))]
def enL:List Ent:=[
 eF 12 y11 [] 5 0,
 eL 0 1 12 y15 [b36_5 1] 6 1,
 eF 13 y11 [] 5 2,
 eL 0 1 13 y16 [b36_5 2] 7 3,
 eF 14 y7 [] 4 4,
 eL 0 1 14 y15 [b24_4 1] 5 5,
 eF 15 y7 [] 4 6,
 eL 0 1 15 y16 [b24_4 2] 6 7,
 eF 16 y11 [] 5 8,
 eL 1 0 16 [(28,o0),(27,o1),(26,o2),(3,o3)] [] 4 9,
 eF 17 y7 [] 4 10,
 eF 29 y7 [] 4 11,
 eF 32 y11 [] 5 12,
 eF 42 y7 [] 4 13,
 eF 44 y7 [] 4 14,
 eL 0 0 44 [(37,o0),(36,o1),(35,o2),(4,o3)] [] 4 15,
 eF 88 y7 [] 4 16,
 eF 41 [o0] [] 1 17,
 eF 84 [o0] [] 1 18,
 eF 85 [o0] [] 1 19,
 eL 0 0 85 [(0,o0),(3,o1)] [] 2 20,
 eF 86 [o0] [] 1 21,
 eF 127 [o0] [] 1 22,
 eF 128 [o0] [] 1 23,
 eF 74 [o0,(.fn 29 [])] [] 1 24,
 eL 0 0 74 [(9,o0),(8,o1),(7,o2),(1,(.fn 29 []))] [] 3 25,
 eF 75 [o0,(.fn 32 [])] [] 1 26,
 eL 0 0 75 [(9,o0),(8,o1),(7,o2),(1,(.fn 32 []))] [] 3 27,
 eF 9 y8 [] 11 28,
 eF 27 y8 [] 11 29,
 eF 28 y8 [] 11 30,
 eF 30 y7 [] 4 31,
 eF 35 [(.agg (wR 0 13))] [] 13 32,
 eF 71 [o0] [] 1 33,
 eF 33 [o0,(.fn 9 [])] [] 1 34,
 eL 0 0 33 [(9,o0),(8,o1),(7,o2),(1,(.fn 9 []))] [] 3 35,
 eF 34 [o0,(.fn 35 [])] [] 1 36,
 eL 0 0 34 [(9,o0),(8,o1),(7,o2),(1,(.fn 35 []))] [] 3 37,
 eF 36 [o0,(.fn 31 [])] [] 1 38,
 eL 0 0 36 [(9,o0),(8,o1),(7,o2),(1,(.fn 31 []))] [] 3 39,
 eF 8 y8 [] 11 40,
 eL 0 1 8 y15 [b29_11 1] 12 41,
 eL 2 1 8 [(4,o0),(1,(rA 0))] [b29_11 1] 12 42,
 eF 25 y8 [] 11 43,
 eF 26 [o0] [] 1 44,
 eL 0 0 26 [(3,o0),(0,o1)] [] 2 45,
 eF 68 [o0] [] 1 46,
 eL 0 0 68 [(3,o0),(0,o1)] [] 2 47,
 eF 69 [o0] [] 1 48,
 eF 63 [o0] [] 1 49,
 eF 107 [o0,o1] [] 2 50,
 eL 0 0 107 [(9,o0),(6,(.pv (.lit (.int .i64 4)))),(0,o1),(1,o2),(7,o3),(8,(.pv (.lit (.int .i64 65536))))] [] 4 51,
 eL 0 0 107 [(9,o0),(6,(.pv (.lit (.int .i64 3)))),(0,o1),(1,o2),(7,o3),(8,(.pv (.lit (.int .i64 2048))))] [] 4 51,
 eL 0 0 107 [(9,o0),(6,(.pv (.lit (.int .i64 2)))),(0,o1),(1,o2),(7,o3),(8,(.pv (.lit (.int .i64 128))))] [] 4 51,
 eF 37 y8 [] 11 52,
 eF 77 y3 [.box 116 y1] 11 53,
 eF 77 y3 [.box 116 y0] 11 54,
 eF 118 y3 [.box 116 y1] 11 55,
 eF 118 y3 [.box 116 y0] 11 56,
 eF 153 y3 [.box 116 y1] 11 57,
 eL 1 4 153 [(61,o0),(60,o1),(59,o2),(0,(rA 0)),(6,(rA 1)),(5,o3),(3,(rA 2)),(4,(rA 3))] [.box 116 y1,b118_2 4,b29_11 6,.box 118 [eA,zA]] 17 58,
 eF 116 [(rA 0),(.agg (wR 0 11)),tA] [.box 116 y1] 11 59,
 eF 153 y3 [.box 116 y0] 11 60,
 eL 1 4 153 [(61,o0),(60,o1),(59,o2),(0,(rA 0)),(6,(rA 1)),(5,o3),(3,(rA 2)),(4,(rA 3))] [.box 116 y0,b118_2 4,b29_11 6,.box 118 [eA,zA]] 17 58,
 eF 116 [(rA 0),(.agg (wR 0 11)),tA] [.box 116 y0] 11 61,
 eF 150 y12 [.box 116 y1] 12 62,
 eF 150 y13 [.box 116 y1] 12 63,
 eF 119 y3 [.box 116 y1] 11 64,
 eF 151 y3 [.box 116 y1] 11 65,
 eL 1 3 151 [(41,o0),(40,o1),(39,o2),(5,(rA 0)),(0,(rA 1)),(4,(rA 2))] [b118_2 3,.box 116 [(.fn 1099511627852 [(.ptr 1 0)])],.box 118 [eA,zA]] 5 66,
 eF 150 y12 [.box 116 y0] 12 67,
 eF 150 y13 [.box 116 y0] 12 68,
 eF 119 y3 [.box 116 y0] 11 69,
 eF 151 y3 [.box 116 y0] 11 70,
 eL 1 3 151 [(41,o0),(40,o1),(39,o2),(5,(rA 0)),(0,(rA 1)),(4,(rA 2))] [b118_2 3,.box 116 [(.fn 1099511627854 [(.ptr 1 0)])],.box 118 [eA,zA]] 5 66,
 eF 76 y3 [.box 116 y1] 11 71,
 eF 116 [(rA 0),(.agg (wR 0 11)),fA] [.box 116 y1] 11 72,
 eF 154 y3 [.box 116 y1] 11 73,
 eF 78 y3 [.box 116 y0] 11 74,
 eF 116 [(rA 0),(.agg (wR 0 11)),fA] [.box 116 y0] 11 75,
 eF 154 y3 [.box 116 y0] 11 76,
 eF 150 y14 [.box 116 y1] 12 77,
 eF 76 y3 [.box 116 y0] 11 78,
 eF 150 y14 [.box 116 y0] 12 79,
 eF 11 y8 [] 11 80,
 eF 38 y3 y9 14 81,
 eF 38 y3 y10 14 82,
 eF 79 [(rA 0),(.agg (wR 0 11)),tA] y9 14 83,
 eL 1 2 79 y18 [b29_11 1,.box 66 (wR 12 3++[fA])] 15 84,
 eF 79 [(rA 0),(.agg (wR 0 11)),tA] y10 14 85,
 eL 1 2 79 y18 [b29_11 1,.box 66 (wR 12 3++[tA])] 15 84,
 eF 121 [(rA 0),o0] [.box 66 (wR 1 3++[fA])] 4 86,
 eF 122 y12 [.box 66 (wR 12 3++[fA])] 15 87,
 eF 122 y13 [.box 66 (wR 12 3++[fA])] 15 88,
 eF 123 y3 y9 14 89,
 eF 124 y3 y9 14 90,
 eL 1 2 124 [(4,o0),(3,(rA 0)),(0,(rA 1))] [b29_11 1,.box 66 (wR 12 3++[fA])] 15 91,
 eF 121 [(rA 0),o0] [.box 66 (wR 1 3++[tA])] 4 92,
 eF 122 y12 [.box 66 (wR 12 3++[tA])] 15 93,
 eF 122 y13 [.box 66 (wR 12 3++[tA])] 15 94,
 eF 123 y3 y10 14 95,
 eF 124 y3 y10 14 96,
 eL 1 2 124 [(4,o0),(3,(rA 0)),(0,(rA 1))] [b29_11 1,.box 66 (wR 12 3++[tA])] 15 91,
 eF 156 y3 y9 14 97,
 eF 79 [(rA 0),(.agg (wR 0 11)),fA] y9 14 98,
 eL 1 2 79 y18 [b29_11 1,.box 66 (wR 12 3++[fA])] 15 84,
 eF 158 y3 y9 14 99,
 eF 160 [(rA 0),o0] [.box 66 (wR 1 3++[fA])] 4 100,
 eF 156 y3 y10 14 101,
 eF 79 [(rA 0),(.agg (wR 0 11)),fA] y10 14 102,
 eL 1 2 79 y18 [b29_11 1,.box 66 (wR 12 3++[tA])] 15 84,
 eF 158 y3 y10 14 103,
 eF 160 [(rA 0),o0] [.box 66 (wR 1 3++[tA])] 4 104,
 eF 122 y14 [.box 66 (wR 12 3++[fA])] 15 105,
 eF 122 y14 [.box 66 (wR 12 3++[tA])] 15 106,
 eF 147 [o0] [] 1 107,
 eL 0 2 147 [(9,o0),(8,o1),(7,o2),(4,nA),(3,(rA 0)),(2,(rA 1))] [.box 118 [eA,o3],.box 118 [eA,zA]] 4 108,
 rn [3] (eL 0 2 147 [(9,o0),(8,o1),(7,o2),(4,(.tsym 2 3)),(3,(rA 0)),(2,(rA 1))] [.box 118 [eA,o4],.box 118 [eA,zA],tk 9 1 3] 5 108),
 eF 148 [o0] [] 1 109,
 eF 117 [(.agg [o0,o1])] [] 2 110,
 eF 115 [(.agg [o0,o1])] [] 2 111,
 eF 149 y8 [] 11 112,
 eF 152 y8 [] 11 113,
 eF 98 [o0] [] 1 114,
 eF 188 [o0,tA] [] 1 115,
 eF 188 [o0,fA] [] 1 116,
 eF 178 y11 [] 5 117,
 eL 0 0 178 [(9,o0),(8,o1),(7,o2),(3,o3)] [] 4 118,
 eF 179 y7 [] 4 119,
 eL 0 1 179 [(10,o0),(9,o1),(8,o2),(1,(rA 0)),(3,o3)] [b24_4 4] 8 120,
 eF 176 [o0,o1,tA] [] 2 121,
 eF 176 [o0,o1,fA] [] 2 122,
 eF 187 [o0] [] 1 123,
 eF 10 y8 [] 11 124,
 eF 120 y8 [] 11 125,
 eF 155 y8 [] 11 126,
 eF 157 [o0,o1,tA] [] 2 127,
 eF 157 [o0,o1,fA] [] 2 128,
 eF 143 [o0] [] 1 129,
 eF 159 [o0] [] 1 130,
 eL 0 0 159 [(4,o0),(0,o1),(3,o2)] [] 3 131,
 eF 161 y11 [] 5 132,
 eL 0 1 161 y16 [b36_5 2] 7 133,
 eF 162 y7 [] 4 134,
 eL 0 1 162 y16 [b24_4 2] 6 135,
 eF 7 [(.agg (wR 0 11)),o11] [] 12 136,
 eF 24 [(.agg (wR 0 11)),o11] [] 12 137,
 eL 0 1 24 [(6,o0),(2,(rA 0)),(5,o1),(1,o2)] [b29_11 3] 14 138,
 eL 2 1 24 [(7,o0),(2,(rA 0)),(5,o1),(1,o2)] [b29_11 3] 14 139,
 eL 4 1 24 [(8,o0),(2,(rA 0)),(5,o1),(1,o2)] [b29_11 3] 14 140,
 eF 142 [o0] [] 1 141,
 rn [1] (eL 0 1 142 [(4,o0),(3,(.tsym 0 1)),(0,o2)] [tk 70 1 1] 3 142),
 rn [1] (eL 2 1 142 [(5,o0),(3,(.tsym 0 1)),(4,o2),(0,o3)] [tk 70 1 1] 4 143),
 eF 177 [o0] [] 1 144,
 rn [3] (eL 0 1 177 [(9,o0),(8,o1),(0,o2),(3,(.tsym 0 3))] [tk 5 1 3] 4 145),
 rn [3] (eL 0 1 177 [(9,o0),(8,o1),(0,o2),(3,(.tsym 1 3))] [.dead,tk 5 1 3] 4 145),
 eF 31 [(.agg (wR 0 16))] [] 16 146,
 eF 20 y7 [] 4 147,
 eF 49 y11 [] 5 148,
 eF 51 [(.agg (wR 0 6))] [] 6 149,
 eF 53 [(.agg (wR 0 8))] [] 8 150,
 eF 90 [(.agg (wR 0 3))] [] 3 151,
 eF 93 [(.agg (wR 0 6))] [] 6 152,
 eF 95 y11 [] 5 153,
 eF 21 y7 [] 4 154,
 eF 55 y11 [] 5 155,
 eL 0 1 55 [(18,o0),(17,o1),(16,o2),(3,o3),(1,(rA 0))] [b79_5 4] 9 156,
 eL 2 1 55 [(36,o0),(35,o1),(34,o2),(3,o3),(18,o4),(17,o5),(16,o6),(1,(rA 0))] [b79_5 7] 12 157,
 eF 57 [(.agg (wR 0 6))] [] 6 158,
 eL 0 1 57 [(30,o0),(29,o1),(28,o2),(3,o3),(1,(rA 0))] [b73_6 4] 10 159,
 eL 2 0 57 [(50,o0),(49,o1),(48,o2),(3,o3)] [] 4 160,
 eF 59 [(.agg (wR 0 8))] [] 8 161,
 eL 0 1 59 [(19,o0),(18,o1),(17,o2),(3,o3),(1,(rA 0))] [b76_8 4] 12 162,
 eL 2 0 59 [(45,o0),(44,o1),(43,o2),(3,o3)] [] 4 163,
 eF 61 [(.agg (wR 0 13))] [] 13 164,
 eF 48 [o0,(.fn 49 [])] [] 1 165,
 eL 0 0 48 [(9,o0),(8,o1),(7,o2),(1,(.fn 49 []))] [] 3 166,
 eF 50 [o0,(.fn 51 [])] [] 1 167,
 eL 0 0 50 [(9,o0),(8,o1),(7,o2),(1,(.fn 51 []))] [] 3 168,
 eF 52 [o0,(.fn 53 [])] [] 1 169,
 eL 0 0 52 [(9,o0),(8,o1),(7,o2),(1,(.fn 53 []))] [] 3 170,
 eF 91 [o0,(.fn 73 [])] [] 1 171,
 eL 0 0 91 [(9,o0),(8,o1),(7,o2),(1,(.fn 73 []))] [] 3 172,
 eF 92 [o0,(.fn 90 [])] [] 1 173,
 eL 0 0 92 [(9,o0),(8,o1),(7,o2),(1,(.fn 90 []))] [] 3 174,
 eF 91 [o0,(.fn 72 [])] [] 1 175,
 eL 0 0 91 [(9,o0),(8,o1),(7,o2),(1,(.fn 72 []))] [] 3 172,
 eF 94 [o0,(.fn 93 [])] [] 1 176,
 eL 0 0 94 [(9,o0),(8,o1),(7,o2),(1,(.fn 93 []))] [] 3 177,
 eF 96 [o0,(.fn 95 [])] [] 1 178,
 eL 0 0 96 [(9,o0),(8,o1),(7,o2),(1,(.fn 95 []))] [] 3 179,
 eF 54 [o0,(.fn 55 [])] [] 1 180,
 eL 0 0 54 [(10,o0),(9,o1),(8,o2),(5,o3),(1,(.fn 55 []))] [] 4 181,
 eF 56 [o0,(.fn 57 [])] [] 1 182,
 eL 0 0 56 [(10,o0),(9,o1),(8,o2),(5,o3),(1,(.fn 57 []))] [] 4 183,
 eF 58 [o0,(.fn 59 [])] [] 1 184,
 eL 0 0 58 [(10,o0),(9,o1),(8,o2),(5,o3),(1,(.fn 59 []))] [] 4 185,
 eF 60 [o0,(.fn 61 [])] [] 1 186,
 eL 0 0 60 [(10,o0),(9,o1),(8,o2),(5,o3),(1,(.fn 61 []))] [] 4 187,
 eF 18 y7 [] 4 188,
 eL 0 1 18 [(40,o0),(39,o1),(38,o2),(1,(rA 0))] [b46_4 3] 7 189,
 eL 2 1 18 [(63,o0),(62,o1),(61,o2),(40,o3),(39,o4),(38,o5),(1,(rA 0))] [b46_4 6] 10 190,
 eL 4 1 18 [(76,o0),(75,o1),(74,o2),(1,(rA 0))] [b46_4 3] 7 191,
 eL 6 1 18 [(100,o0),(99,o1),(98,o2),(76,o3),(75,o4),(74,o5),(1,(rA 0))] [b46_4 6] 10 192,
 eL 8 1 18 [(113,o0),(112,o1),(111,o2),(1,(rA 0))] [b46_4 3] 7 193,
 eL 10 0 18 [(137,o0),(136,o1),(135,o2)] [] 3 194,
 eF 19 y7 [] 4 195,
 eL 0 1 19 y15 [b46_4 1] 5 196,
 eL 2 1 19 [(4,o0),(1,(rA 0))] [b46_4 1] 5 197,
 eL 4 1 19 [(5,o0),(1,(rA 0))] [b46_4 1] 5 198,
 eF 45 y11 [] 5 199,
 eL 0 1 45 y15 [b79_5 1] 6 200,
 eL 2 1 45 [(4,o0),(1,(rA 0))] [b79_5 1] 6 201,
 eL 4 1 45 [(5,o0),(1,(rA 0)),(4,o1)] [b79_5 2] 7 202,
 eF 46 [(.agg (wR 0 6))] [] 6 203,
 eL 0 1 46 y15 [b73_6 1] 7 204,
 eF 47 [(.agg (wR 0 8))] [] 8 205,
 eL 0 1 47 y15 [b76_8 1] 9 206,
 eF 89 [o0] [] 1 207,
 eL 0 0 89 [(3,o0),(0,o1)] [] 2 208,
 eF 64 [(.agg (wR 0 13))] [] 13 209,
 eF 62 (wR 0 3) [] 3 210,
 eL 0 0 62 [(8,o0),(0,o1),(7,o2),(1,o3),(2,o4)] [] 5 211,
 eF 22 y7 [] 4 212,
 eL 0 1 22 y16 [b46_4 2] 6 213,
 eL 2 2 22 [(7,o0),(5,(rA 0)),(6,nA),(3,o1),(4,o2),(1,(rA 1))] [b79_5 3,b46_4 8] 12 214,
 rn [1] (eL 2 2 22 [(7,o0),(5,(rA 0)),(6,(.tsym 2 1)),(3,o2),(4,o3),(1,(rA 1))] [b79_5 4,b46_4 9,tk 9 1 1] 13 214),
 eL 4 2 22 [(9,o0),(5,(rA 0)),(7,o1),(8,o2),(6,nA),(3,o3),(4,o4),(1,(rA 1))] [b79_5 5,b46_4 10] 14 215,
 rn [3] (eL 4 3 22 [(9,o0),(5,(rA 0)),(7,o1),(8,o2),(6,(.tsym 1 3)),(3,o4),(4,o5),(1,(rA 2))] [b79_5 6,tk 9 1 3,b46_4 11] 15 216),
 eL 6 1 22 [(10,o0),(1,(rA 0)),(3,o1)] [b46_4 2] 6 217,
 eL 8 2 22 [(12,o0),(11,(rA 0)),(3,o1),(10,o2),(1,(rA 1))] [b73_6 3,b46_4 9] 13 218,
 eL 10 2 22 [(13,o0),(11,(rA 0)),(3,o1),(10,o2),(1,(rA 1))] [b73_6 3,b46_4 9] 13 219,
 eL 12 1 22 [(14,o0),(1,(rA 0)),(3,o1)] [b46_4 2] 6 220,
 eL 14 2 22 [(17,o0),(15,(rA 0)),(16,nA),(3,o1),(14,o2),(1,(rA 1))] [b76_8 3,b46_4 11] 15 221,
 rn [1] (eL 14 2 22 [(17,o0),(15,(rA 0)),(16,(.tsym 2 1)),(3,o2),(14,o3),(1,(rA 1))] [b76_8 4,b46_4 12,tk 9 1 1] 16 221),
 eL 16 2 22 [(18,o0),(15,(rA 0)),(3,o1),(14,o2),(1,(rA 1))] [b76_8 3,b46_4 11] 15 222,
 eL 18 1 22 [(19,o0),(1,(rA 0)),(3,o1)] [b46_4 2] 6 223,
 eF 72 [o0] [] 1 224,
 eF 73 [o0] [] 1 225,
 eF 39 [o0] [] 1 226,
 eF 40 [o0] [] 1 227,
 eF 43 [o0] [] 1 228,
 eF 109 [o0] [] 1 229,
 eF 99 [o0] [] 1 230,
 eF 70 [o0] [] 1 231,
 eF 97 [o0,o1] [] 2 232,
 eF 175 [o0,o1] [] 2 233]
def shT:List (List Shape):=[
 [yU o0 1],
 [yE .ret [(2,o5)] [b36_5 0] 6,yE (.exit 0) [(1,(rA 0))] [b36_5 0] 5],
 [yU o0 1],
 [yE (.exit 0) [(3,o5)] [b36_5 0] 6],
 [yU o0 1],
 [yE .ret [(2,o4)] [b24_4 0] 5,yE (.exit 0) [(1,(rA 0))] [b24_4 0] 4],
 [yU o0 1],
 [yE (.exit 0) [(3,o4)] [b24_4 0] 5],
 [yU o0 1],
 [yE (.exit 1) [(3,o0)] [] 1],
 [yU o0 1],
 [yU o0 1],
 [yU o0 1],
 [yU o0 1],
 [yU o0 1],
 [yE (.exit 0) [(4,o0)] [] 1],
 [yU o0 1],
 [yU o0 1],
 [yU o0 1],
 [yU o0 1],
 [yE (.exit 0) [(0,o0),(3,o1)] [] 2],
 [yU o0 1],
 [yU o0 1],
 [yU o0 1],
 [yU o0 1],
 y4,
 [yU o0 1],
 y4,
 [yU o0 1],
 [yU o0 1],
 [yU o0 1],
 [yU o0 1],
 [yU o0 1],
 [yU o0 1],
 [yU o0 1],
 y4,
 [yU o0 1],
 y4,
 [yU o0 1],
 y4,
 [yU o0 1],
 [yE .ret [(2,o11)] [b29_11 0] 12,yE (.exit 0) [(1,(rA 0))] [b29_11 0] 11],
 [yE .ret [(2,o11)] [b29_11 0] 12,yE (.exit 2) [] [b29_11 0] 11],
 [yU o0 1],
 [yU o0 1],
 y17,
 [yU o0 1],
 y17,
 [yU o0 1],
 [yU o0 1],
 [yU o0 1],
 [yE .ret [(4,o0)] [] 1,yE (.exit 0) [(7,o0),(8,o1),(6,o2)] [] 3],
 [yU o0 1],
 y6,
 y5,
 y6,
 y5,
 y6,
 [yE (.exit 1) [(6,(rA 1)),(0,(rA 0)),(3,(rA 2)),(4,(rA 3))] [.box 116 y1,b118_2 0,b29_11 2,b118_2 13] 15,yE (.exit 1) [(6,(rA 1)),(0,(rA 0)),(3,(rA 2)),(4,(rA 3))] [.box 116 y0,b118_2 0,b29_11 2,b118_2 13] 15],
 y6,
 y5,
 y5,
 y6,
 y6,
 y6,
 y6,
 [yE (.exit 1) [(5,(rA 0)),(4,(rA 2))] [b118_2 0,.box 116 [(.fn 1099511627852 [(.ptr 1 0)])],b118_2 2] 4,yE (.exit 1) [(5,(rA 0)),(4,(rA 2))] [b118_2 0,.box 116 [(.fn 1099511627854 [(.ptr 1 0)])],b118_2 2] 4],
 y5,
 y5,
 y5,
 y5,
 y6,
 y6,
 y6,
 y5,
 y5,
 y5,
 y6,
 y5,
 y5,
 [yU o0 1],
 y2,
 y2,
 y2,
 [yE (.exit 1) [(0,(rA 1)),(4,(rA 0))] [b29_11 0,b66_4 11] 15],
 y2,
 y2,
 y2,
 y2,
 y2,
 y2,
 [yE (.exit 1) [(0,(rA 1))] [b29_11 0,b66_4 11] 15],
 y2,
 y2,
 y2,
 y2,
 y2,
 y2,
 y2,
 y2,
 y2,
 y2,
 y2,
 y2,
 y2,
 y2,
 y2,
 [yU (.agg [o0,o1]) 2],
 [yE (.exit 0) [(4,o4),(3,(rA 0)),(2,(rA 1))] [b118_2 0,b118_2 2] 5,yR (.exit 0) [(4,(.tsym 2 4)),(3,(rA 0)),(2,(rA 1))] [b118_2 0,b118_2 2,tk 9 1 4] 5 [4]],
 [yU (.agg [o0,o1]) 2],
 [yU (.agg [o0,o1]) 2],
 [yU (.agg [o0,o1]) 2],
 [yU (.tup [o0,(.agg (wR 1 11)),(.agg (wR 12 11)),o23]) 24],
 [yU o0 1],
 [yU o0 1],
 [yU o0 1],
 [yU o0 1],
 [yU o0 1],
 [yE (.exit 0) [(3,o0)] [] 1],
 [yU o0 1],
 [yE (.exit 0) [(3,o4)] [b24_4 0] 5],
 [yU o0 1],
 [yU o0 1],
 [yU (.tup [o0,o1]) 2],
 [yU o0 1],
 [yU o0 1],
 [yU o0 1],
 [yU o0 1],
 [yU o0 1],
 [yU o0 1],
 [yU o0 1],
 [yE (.exit 0) [(3,o0)] [] 1],
 [yU o0 1],
 [yE (.exit 0) [(3,o5)] [b36_5 0] 6],
 [yU o0 1],
 [yE (.exit 0) [(3,o4)] [b24_4 0] 5],
 [yU o0 1],
 [yU o0 1],
 [yE (.exit 0) [(2,(rA 0)),(5,o11),(1,o12)] [b29_11 0] 13],
 [yE (.exit 2) [(2,(rA 0)),(5,o11),(1,o12)] [b29_11 0] 13],
 [yE (.exit 4) [(5,o11)] [b29_11 0] 12],
 [yU o0 1],
 [yR .ret [(2,o0)] [tk 70 1 1] 2 [1],yR (.exit 0) [] [tk 70 1 0] 1 [0]],
 [yR .ret [(2,o0)] [tk 70 1 1] 2 [1],yR (.exit 2) [(4,o0),(3,(.tsym 0 1)),(0,o2)] [tk 70 1 1] 3 [1]],
 [yU o0 1],
 [yR (.exit 0) [(3,(.tsym 0 0))] [tk 5 1 0] 1 [0],yR (.exit 0) [(3,(.tsym 1 0))] [.dead,tk 5 1 0] 1 [0]],
 [yU o0 1],
 [yU o0 1],
 [yU o0 1],
 [yU o0 1],
 [yU o0 1],
 [yU o0 1],
 [yU o0 1],
 [yU o0 1],
 [yU o0 1],
 [yU o0 1],
 [yE (.exit 0) [(1,(rA 0)),(3,o5)] [b79_5 0] 6],
 [yE (.exit 2) [(18,o5),(17,o6),(16,o7),(3,o8),(1,(rA 0))] [b79_5 0] 9],
 [yU o0 1],
 [yE (.exit 0) [(1,(rA 0)),(3,o6)] [b73_6 0] 7],
 [yE (.exit 2) [(3,o0)] [] 1],
 [yU o0 1],
 [yE (.exit 0) [(3,o8),(1,(rA 0))] [b76_8 0] 9],
 [yE (.exit 2) [(3,o0)] [] 1],
 [yU o0 1],
 [yU o0 1],
 y4,
 [yU o0 1],
 y4,
 [yU o0 1],
 y4,
 [yU o0 1],
 y4,
 [yU o0 1],
 y4,
 [yU o0 1],
 [yU o0 1],
 y4,
 [yU o0 1],
 y4,
 [yU o0 1],
 [yE (.exit 0) [(5,o0)] [] 1],
 [yU o0 1],
 [yE (.exit 0) [(5,o0)] [] 1],
 [yU o0 1],
 [yE (.exit 0) [(5,o0)] [] 1],
 [yU o0 1],
 [yE (.exit 0) [(5,o0)] [] 1],
 [yU o0 1],
 [yE .ret [(2,o4)] [b46_4 0] 5,yE (.exit 0) [(1,(rA 0))] [b46_4 0] 4],
 [yE .ret [(2,o4)] [b46_4 0] 5,yE (.exit 2) [(40,o4),(39,o5),(38,o6),(1,(rA 0))] [b46_4 0] 7],
 [yE .ret [(2,o4)] [b46_4 0] 5,yE (.exit 4) [(1,(rA 0))] [b46_4 0] 4],
 [yE .ret [(2,o4)] [b46_4 0] 5,yE (.exit 6) [(76,o4),(75,o5),(74,o6),(1,(rA 0))] [b46_4 0] 7],
 [yE .ret [(2,o4)] [b46_4 0] 5,yE (.exit 8) [(1,(rA 0))] [b46_4 0] 4],
 [yE .ret [(2,o0)] [] 1,yE (.exit 10) [] [] 0],
 [yU o0 1],
 [yE .ret [(2,o4)] [b46_4 0] 5,yE (.exit 0) [(1,(rA 0))] [b46_4 0] 4],
 [yE .ret [(2,o4)] [b46_4 0] 5,yE (.exit 2) [(1,(rA 0))] [b46_4 0] 4],
 [yE .ret [(2,o4)] [b46_4 0] 5,yE (.exit 4) [(1,(rA 0))] [b46_4 0] 4],
 [yU o0 1],
 [yE .ret [(2,o5)] [b79_5 0] 6,yE (.exit 0) [(1,(rA 0))] [b79_5 0] 5],
 [yE .ret [(2,o5)] [b79_5 0] 6,yE (.exit 2) [] [b79_5 0] 5],
 [yE .ret [(2,o5)] [b79_5 0] 6,yE (.exit 4) [(4,o5),(1,(rA 0))] [b79_5 0] 6],
 [yU o0 1],
 [yE .ret [(2,o6)] [b73_6 0] 7,yE (.exit 0) [(1,(rA 0))] [b73_6 0] 6],
 [yU o0 1],
 [yE .ret [(2,o8)] [b76_8 0] 9,yE (.exit 0) [(1,(rA 0))] [b76_8 0] 8],
 [yU o0 1],
 y17,
 [yU o0 1],
 [yU o0 1],
 [yE (.exit 0) [(7,o0)] [] 1],
 [yU o0 1],
 [yE (.exit 0) [(1,(rA 0)),(3,o4)] [b46_4 0] 5],
 [yE (.exit 2) [(3,o9),(5,(rA 0)),(6,o10),(4,o11),(1,(rA 1))] [b79_5 0,b46_4 5] 12,yR (.exit 2) [(3,o9),(5,(rA 0)),(6,(.tsym 2 10)),(4,o11),(1,(rA 1))] [b79_5 0,b46_4 5,tk 9 1 10] 12 [10]],
 [yE (.exit 4) [(6,o9),(8,o10),(7,o11),(5,(rA 0)),(3,o12),(4,o13),(1,(rA 1))] [b79_5 0,b46_4 5] 14],
 [yR (.exit 4) [(6,(.tsym 1 9)),(8,o10),(7,o11),(5,(rA 0)),(3,o12),(4,o13),(1,(rA 2))] [b79_5 0,tk 9 1 9,b46_4 5] 14 [9]],
 [yE (.exit 6) [(1,(rA 0)),(3,o4)] [b46_4 0] 5],
 [yE (.exit 8) [(11,(rA 0)),(3,o10),(10,o11),(1,(rA 1))] [b73_6 0,b46_4 6] 12],
 [yE (.exit 10) [(3,o10),(10,o11),(1,(rA 1))] [b73_6 0,b46_4 6] 12],
 [yE (.exit 12) [(1,(rA 0)),(3,o4)] [b46_4 0] 5],
 [yE (.exit 14) [(3,o12),(15,(rA 0)),(16,o13),(14,o14),(1,(rA 1))] [b76_8 0,b46_4 8] 15,yR (.exit 14) [(3,o12),(15,(rA 0)),(16,(.tsym 2 13)),(14,o14),(1,(rA 1))] [b76_8 0,b46_4 8,tk 9 1 13] 15 [13]],
 [yE (.exit 16) [(3,o12),(14,o13),(1,(rA 1))] [b76_8 0,b46_4 8] 14],
 [yE (.exit 18) [(3,o4)] [b46_4 0] 5],
 [yU o0 1],
 [yU o0 1],
 [yU o0 1],
 [yU o0 1],
 [yU o0 1],
 [yU o0 1],
 [yU o0 1],
 [yU o0 1],
 [yU o0 1],
 [yU o0 1]]
def etL:List Et:=[k5 g12,k6 g12b0a,k5 g13,k7 g13b0a,k4 g14,k5 g14b0a,k4 g15,k6 g15b0a,k5 g16,k4 g16b1a,k4 g17,k4 g29,k5 g32,k4 g42,k4 g44,k4 g44b0a,k4 g88,k1 g41,k1 g84,k1 g85,k2 g85b0a,k1 g86,k1 g127,k1 g128,k1 g74a,k3 g74ab0a,k1 g75a,k3 g75ab0a,k11 g9,k11 g27,k11 g28,k4 g30,k13 g35,k1 g71,k1 g33a,k3 g33ab0a,k1 g34a,k3 g34ab0a,k1 g36a,k3 g36ab0a,k11 g8,k12 g8b0a,k12 g8b2a,k11 g25,k1 g26,k2 g26b0a,k1 g68,k2 g68b0a,k1 g69,k1 g63,k2 g107,k4 g107b0a,k4 g107b0b,k4 g107b0c,k11 g37,k11 g77a,k11 g77b,k11 g118a,k11 g118b,k11 g153a,k17 g153ab1a,k11 g116a,k11 g153b,k17 g153bb1a,k11 g116b,k12 g150a,k12 g150b,k11 g119a,k11 g151a,k5 g151ab1a,k12 g150c,k12 g150d,k11 g119b,k11 g151b,k5 g151bb1a,k11 g76a,k11 g116c,k11 g154a,k11 g78a,k11 g116d,k11 g154b,k12 g150e,k11 g76b,k12 g150f,k11 g11,k14 g38a,k14 g38b,k14 g79a,k15 g79ab1a,k14 g79b,k15 g79bb1a,k4 g121a,k15 g122a,k15 g122b,k14 g123a,k14 g124a,k15 g124ab1a,k4 g121b,k15 g122c,k15 g122d,k14 g123b,k14 g124b,k15 g124bb1a,k14 g156a,k14 g79c,k15 g79cb1a,k14 g158a,k4 g160a,k14 g156b,k14 g79d,k15 g79db1a,k14 g158b,k4 g160b,k15 g122e,k15 g122f,k1 g147,k4 g147b0a,k5 g147b0b,k1 g148,k2 g117,k2 g115,k11 g149,k11 g152,k1 g98,k1 g188g0,k1 g188g1,k5 g178,k4 g178b0a,k4 g179,k8 g179b0a,k2 g176g0,k2 g176g1,k1 g187,k11 g10,k11 g120,k11 g155,k2 g157g0,k2 g157g1,k1 g143,k1 g159,k3 g159b0a,k5 g161,k7 g161b0a,k4 g162,k6 g162b0a,k12 g7,k12 g24,k14 g24b0a,k14 g24b2a,k14 g24b4a,k1 g142,k3 g142b0a,k4 g142b2a,k1 g177,k4 g177b0a,k4 g177b0b,k16 g31,k4 g20,k5 g49,k6 g51,k8 g53,k3 g90,k6 g93,k5 g95,k4 g21,k5 g55,k9 g55b0a,k12 g55b2a,k6 g57,k10 g57b0a,k4 g57b2a,k8 g59,k12 g59b0a,k4 g59b2a,k13 g61,k1 g48a,k3 g48ab0a,k1 g50a,k3 g50ab0a,k1 g52a,k3 g52ab0a,k1 g91a,k3 g91ab0a,k1 g92a,k3 g92ab0a,k1 g91b,k3 g91bb0a,k1 g94a,k3 g94ab0a,k1 g96a,k3 g96ab0a,k1 g54a,k4 g54ab0a,k1 g56a,k4 g56ab0a,k1 g58a,k4 g58ab0a,k1 g60a,k4 g60ab0a,k4 g18,k7 g18b0a,k10 g18b2a,k7 g18b4a,k10 g18b6a,k7 g18b8a,k3 g18b10a,k4 g19,k5 g19b0a,k5 g19b2a,k5 g19b4a,k5 g45,k6 g45b0a,k6 g45b2a,k7 g45b4a,k6 g46,k7 g46b0a,k8 g47,k9 g47b0a,k1 g89,k2 g89b0a,k13 g64,k3 g62,k5 g62b0a,k4 g22,k6 g22b0a,k12 g22b2a,k13 g22b2b,k14 g22b4a,k15 g22b4b,k6 g22b6a,k13 g22b8a,k13 g22b10a,k6 g22b12a,k15 g22b14a,k16 g22b14b,k15 g22b16a,k6 g22b18a,.ext (extL1 xUp),.ext (extL1 xLow),.ext (extL1 xUp),.ext (extL1 xLow),.ext (extL1 xTxt),.ext (extL1 xOp),.ext (extL1 xOp),.ext (extL1 xUtf),.ext (extL2 xJoin),.ext (extL2 xByte)]
def SS:Nat→List Shape:=nth [] shT
def EE:Nat→Ent:=nth dEn enL
def TT:Nat→Et:=nth etNo etL
noncomputable abbrev ev:Q→Option Rs:=Evl PG EE TT
abbrev RK(k:Nat):Prop:=RuleOk PG SS EE TT k
abbrev q12(a b c d e:PV):Q:=⟨0,[a,b,c,d,e]⟩
abbrev q12b0a(a b c d e f:PV):Q:=⟨1,[a,b,c,d,e,f]⟩
abbrev q13(a b c d e:PV):Q:=⟨2,[a,b,c,d,e]⟩
abbrev q13b0a(a b c d e f g:PV):Q:=⟨3,[a,b,c,d,e,f,g]⟩
abbrev q14(a b c d:PV):Q:=⟨4,[a,b,c,d]⟩
abbrev q14b0a(a b c d e:PV):Q:=⟨5,[a,b,c,d,e]⟩
abbrev q15(a b c d:PV):Q:=⟨6,[a,b,c,d]⟩
abbrev q15b0a(a b c d e f:PV):Q:=⟨7,[a,b,c,d,e,f]⟩
abbrev q16(a b c d e:PV):Q:=⟨8,[a,b,c,d,e]⟩
abbrev q16b1a(a b c d:PV):Q:=⟨9,[a,b,c,d]⟩
abbrev q17(a b c d:PV):Q:=⟨10,[a,b,c,d]⟩
abbrev q29(a b c d:PV):Q:=⟨11,[a,b,c,d]⟩
abbrev q32(a b c d e:PV):Q:=⟨12,[a,b,c,d,e]⟩
abbrev q42(a b c d:PV):Q:=⟨13,[a,b,c,d]⟩
abbrev q44(a b c d:PV):Q:=⟨14,[a,b,c,d]⟩
abbrev q44b0a(a b c d:PV):Q:=⟨15,[a,b,c,d]⟩
abbrev q88(a b c d:PV):Q:=⟨16,[a,b,c,d]⟩
abbrev q41(a:PV):Q:=⟨17,[a]⟩
abbrev q84(a:PV):Q:=⟨18,[a]⟩
abbrev q85(a:PV):Q:=⟨19,[a]⟩
abbrev q85b0a(a b:PV):Q:=⟨20,[a,b]⟩
abbrev q86(a:PV):Q:=⟨21,[a]⟩
abbrev q127(a:PV):Q:=⟨22,[a]⟩
abbrev q128(a:PV):Q:=⟨23,[a]⟩
abbrev q74a(a:PV):Q:=⟨24,[a]⟩
abbrev q74ab0a(a b c:PV):Q:=⟨25,[a,b,c]⟩
abbrev q75a(a:PV):Q:=⟨26,[a]⟩
abbrev q75ab0a(a b c:PV):Q:=⟨27,[a,b,c]⟩
abbrev q9(a b c d e f g h i j k:PV):Q:=⟨28,[a,b,c,d,e,f,g,h,i,j,k]⟩
abbrev q27(a b c d e f g h i j k:PV):Q:=⟨29,[a,b,c,d,e,f,g,h,i,j,k]⟩
abbrev q28(a b c d e f g h i j k:PV):Q:=⟨30,[a,b,c,d,e,f,g,h,i,j,k]⟩
abbrev q30(a b c d:PV):Q:=⟨31,[a,b,c,d]⟩
abbrev q35(a b c d e f g h i j k l m:PV):Q:=⟨32,[a,b,c,d,e,f,g,h,i,j,k,l,m]⟩
abbrev q71(a:PV):Q:=⟨33,[a]⟩
abbrev q33a(a:PV):Q:=⟨34,[a]⟩
abbrev q33ab0a(a b c:PV):Q:=⟨35,[a,b,c]⟩
abbrev q34a(a:PV):Q:=⟨36,[a]⟩
abbrev q34ab0a(a b c:PV):Q:=⟨37,[a,b,c]⟩
abbrev q36a(a:PV):Q:=⟨38,[a]⟩
abbrev q36ab0a(a b c:PV):Q:=⟨39,[a,b,c]⟩
abbrev q8(a b c d e f g h i j k:PV):Q:=⟨40,[a,b,c,d,e,f,g,h,i,j,k]⟩
abbrev q8b0a(a b c d e f g h i j k l:PV):Q:=⟨41,[a,b,c,d,e,f,g,h,i,j,k,l]⟩
abbrev q8b2a(a b c d e f g h i j k l:PV):Q:=⟨42,[a,b,c,d,e,f,g,h,i,j,k,l]⟩
abbrev q25(a b c d e f g h i j k:PV):Q:=⟨43,[a,b,c,d,e,f,g,h,i,j,k]⟩
abbrev q26(a:PV):Q:=⟨44,[a]⟩
abbrev q26b0a(a b:PV):Q:=⟨45,[a,b]⟩
abbrev q68(a:PV):Q:=⟨46,[a]⟩
abbrev q68b0a(a b:PV):Q:=⟨47,[a,b]⟩
abbrev q69(a:PV):Q:=⟨48,[a]⟩
abbrev q63(a:PV):Q:=⟨49,[a]⟩
abbrev q107(a b:PV):Q:=⟨50,[a,b]⟩
abbrev q107b0a(a b c d:PV):Q:=⟨51,[a,b,c,d]⟩
abbrev q107b0b(a b c d:PV):Q:=⟨52,[a,b,c,d]⟩
abbrev q107b0c(a b c d:PV):Q:=⟨53,[a,b,c,d]⟩
abbrev q37(a b c d e f g h i j k:PV):Q:=⟨54,[a,b,c,d,e,f,g,h,i,j,k]⟩
abbrev q77a(a b c d e f g h i j k:PV):Q:=⟨55,[a,b,c,d,e,f,g,h,i,j,k]⟩
abbrev q77b(a b c d e f g h i j k:PV):Q:=⟨56,[a,b,c,d,e,f,g,h,i,j,k]⟩
abbrev q118a(a b c d e f g h i j k:PV):Q:=⟨57,[a,b,c,d,e,f,g,h,i,j,k]⟩
abbrev q118b(a b c d e f g h i j k:PV):Q:=⟨58,[a,b,c,d,e,f,g,h,i,j,k]⟩
abbrev q153a(a b c d e f g h i j k:PV):Q:=⟨59,[a,b,c,d,e,f,g,h,i,j,k]⟩
abbrev q153ab1a(a b c d e f g h i j k l m n o p q:PV):Q:=⟨60,[a,b,c,d,e,f,g,h,i,j,k,l,m,n,o,p,q]⟩
abbrev q116a(a b c d e f g h i j k:PV):Q:=⟨61,[a,b,c,d,e,f,g,h,i,j,k]⟩
abbrev q153b(a b c d e f g h i j k:PV):Q:=⟨62,[a,b,c,d,e,f,g,h,i,j,k]⟩
abbrev q153bb1a(a b c d e f g h i j k l m n o p q:PV):Q:=⟨63,[a,b,c,d,e,f,g,h,i,j,k,l,m,n,o,p,q]⟩
abbrev q116b(a b c d e f g h i j k:PV):Q:=⟨64,[a,b,c,d,e,f,g,h,i,j,k]⟩
abbrev q150a(a b c d e f g h i j k l:PV):Q:=⟨65,[a,b,c,d,e,f,g,h,i,j,k,l]⟩
abbrev q150b(a b c d e f g h i j k l:PV):Q:=⟨66,[a,b,c,d,e,f,g,h,i,j,k,l]⟩
abbrev q119a(a b c d e f g h i j k:PV):Q:=⟨67,[a,b,c,d,e,f,g,h,i,j,k]⟩
abbrev q151a(a b c d e f g h i j k:PV):Q:=⟨68,[a,b,c,d,e,f,g,h,i,j,k]⟩
abbrev q151ab1a(a b c d e:PV):Q:=⟨69,[a,b,c,d,e]⟩
abbrev q150c(a b c d e f g h i j k l:PV):Q:=⟨70,[a,b,c,d,e,f,g,h,i,j,k,l]⟩
abbrev q150d(a b c d e f g h i j k l:PV):Q:=⟨71,[a,b,c,d,e,f,g,h,i,j,k,l]⟩
abbrev q119b(a b c d e f g h i j k:PV):Q:=⟨72,[a,b,c,d,e,f,g,h,i,j,k]⟩
abbrev q151b(a b c d e f g h i j k:PV):Q:=⟨73,[a,b,c,d,e,f,g,h,i,j,k]⟩
abbrev q151bb1a(a b c d e:PV):Q:=⟨74,[a,b,c,d,e]⟩
abbrev q76a(a b c d e f g h i j k:PV):Q:=⟨75,[a,b,c,d,e,f,g,h,i,j,k]⟩
abbrev q116c(a b c d e f g h i j k:PV):Q:=⟨76,[a,b,c,d,e,f,g,h,i,j,k]⟩
abbrev q154a(a b c d e f g h i j k:PV):Q:=⟨77,[a,b,c,d,e,f,g,h,i,j,k]⟩
abbrev q78a(a b c d e f g h i j k:PV):Q:=⟨78,[a,b,c,d,e,f,g,h,i,j,k]⟩
abbrev q116d(a b c d e f g h i j k:PV):Q:=⟨79,[a,b,c,d,e,f,g,h,i,j,k]⟩
abbrev q154b(a b c d e f g h i j k:PV):Q:=⟨80,[a,b,c,d,e,f,g,h,i,j,k]⟩
abbrev q150e(a b c d e f g h i j k l:PV):Q:=⟨81,[a,b,c,d,e,f,g,h,i,j,k,l]⟩
abbrev q76b(a b c d e f g h i j k:PV):Q:=⟨82,[a,b,c,d,e,f,g,h,i,j,k]⟩
abbrev q150f(a b c d e f g h i j k l:PV):Q:=⟨83,[a,b,c,d,e,f,g,h,i,j,k,l]⟩
abbrev q11(a b c d e f g h i j k:PV):Q:=⟨84,[a,b,c,d,e,f,g,h,i,j,k]⟩
abbrev q38a(a b c d e f g h i j k l m n:PV):Q:=⟨85,[a,b,c,d,e,f,g,h,i,j,k,l,m,n]⟩
abbrev q38b(a b c d e f g h i j k l m n:PV):Q:=⟨86,[a,b,c,d,e,f,g,h,i,j,k,l,m,n]⟩
abbrev q79a(a b c d e f g h i j k l m n:PV):Q:=⟨87,[a,b,c,d,e,f,g,h,i,j,k,l,m,n]⟩
abbrev q79ab1a(a b c d e f g h i j k l m n o:PV):Q:=⟨88,[a,b,c,d,e,f,g,h,i,j,k,l,m,n,o]⟩
abbrev q79b(a b c d e f g h i j k l m n:PV):Q:=⟨89,[a,b,c,d,e,f,g,h,i,j,k,l,m,n]⟩
abbrev q79bb1a(a b c d e f g h i j k l m n o:PV):Q:=⟨90,[a,b,c,d,e,f,g,h,i,j,k,l,m,n,o]⟩
abbrev q121a(a b c d:PV):Q:=⟨91,[a,b,c,d]⟩
abbrev q122a(a b c d e f g h i j k l m n o:PV):Q:=⟨92,[a,b,c,d,e,f,g,h,i,j,k,l,m,n,o]⟩
abbrev q122b(a b c d e f g h i j k l m n o:PV):Q:=⟨93,[a,b,c,d,e,f,g,h,i,j,k,l,m,n,o]⟩
abbrev q123a(a b c d e f g h i j k l m n:PV):Q:=⟨94,[a,b,c,d,e,f,g,h,i,j,k,l,m,n]⟩
abbrev q124a(a b c d e f g h i j k l m n:PV):Q:=⟨95,[a,b,c,d,e,f,g,h,i,j,k,l,m,n]⟩
abbrev q124ab1a(a b c d e f g h i j k l m n o:PV):Q:=⟨96,[a,b,c,d,e,f,g,h,i,j,k,l,m,n,o]⟩
abbrev q121b(a b c d:PV):Q:=⟨97,[a,b,c,d]⟩
abbrev q122c(a b c d e f g h i j k l m n o:PV):Q:=⟨98,[a,b,c,d,e,f,g,h,i,j,k,l,m,n,o]⟩
abbrev q122d(a b c d e f g h i j k l m n o:PV):Q:=⟨99,[a,b,c,d,e,f,g,h,i,j,k,l,m,n,o]⟩
abbrev q123b(a b c d e f g h i j k l m n:PV):Q:=⟨100,[a,b,c,d,e,f,g,h,i,j,k,l,m,n]⟩
abbrev q124b(a b c d e f g h i j k l m n:PV):Q:=⟨101,[a,b,c,d,e,f,g,h,i,j,k,l,m,n]⟩
abbrev q124bb1a(a b c d e f g h i j k l m n o:PV):Q:=⟨102,[a,b,c,d,e,f,g,h,i,j,k,l,m,n,o]⟩
abbrev q156a(a b c d e f g h i j k l m n:PV):Q:=⟨103,[a,b,c,d,e,f,g,h,i,j,k,l,m,n]⟩
abbrev q79c(a b c d e f g h i j k l m n:PV):Q:=⟨104,[a,b,c,d,e,f,g,h,i,j,k,l,m,n]⟩
abbrev q158a(a b c d e f g h i j k l m n:PV):Q:=⟨106,[a,b,c,d,e,f,g,h,i,j,k,l,m,n]⟩
abbrev q160a(a b c d:PV):Q:=⟨107,[a,b,c,d]⟩
abbrev q156b(a b c d e f g h i j k l m n:PV):Q:=⟨108,[a,b,c,d,e,f,g,h,i,j,k,l,m,n]⟩
abbrev q79d(a b c d e f g h i j k l m n:PV):Q:=⟨109,[a,b,c,d,e,f,g,h,i,j,k,l,m,n]⟩
abbrev q158b(a b c d e f g h i j k l m n:PV):Q:=⟨111,[a,b,c,d,e,f,g,h,i,j,k,l,m,n]⟩
abbrev q160b(a b c d:PV):Q:=⟨112,[a,b,c,d]⟩
abbrev q122e(a b c d e f g h i j k l m n o:PV):Q:=⟨113,[a,b,c,d,e,f,g,h,i,j,k,l,m,n,o]⟩
abbrev q122f(a b c d e f g h i j k l m n o:PV):Q:=⟨114,[a,b,c,d,e,f,g,h,i,j,k,l,m,n,o]⟩
abbrev q147(a:PV):Q:=⟨115,[a]⟩
abbrev q147b0a(a b c d:PV):Q:=⟨116,[a,b,c,d]⟩
abbrev q147b0b(a b c:PV)(d:List (List PV))(e:PV):Q:=⟨117,[a,b,c,.rows d,e]⟩
abbrev q148(a:PV):Q:=⟨118,[a]⟩
abbrev q117(a b:PV):Q:=⟨119,[a,b]⟩
abbrev q115(a b:PV):Q:=⟨120,[a,b]⟩
abbrev q149(a b c d e f g h i j k:PV):Q:=⟨121,[a,b,c,d,e,f,g,h,i,j,k]⟩
abbrev q152(a b c d e f g h i j k:PV):Q:=⟨122,[a,b,c,d,e,f,g,h,i,j,k]⟩
abbrev q98(a:PV):Q:=⟨123,[a]⟩
abbrev q188g0(a:PV):Q:=⟨124,[a]⟩
abbrev q188g1(a:PV):Q:=⟨125,[a]⟩
abbrev q178(a b c d e:PV):Q:=⟨126,[a,b,c,d,e]⟩
abbrev q178b0a(a b c d:PV):Q:=⟨127,[a,b,c,d]⟩
abbrev q179(a b c d:PV):Q:=⟨128,[a,b,c,d]⟩
abbrev q179b0a(a b c d e f g h:PV):Q:=⟨129,[a,b,c,d,e,f,g,h]⟩
abbrev q176g0(a b:PV):Q:=⟨130,[a,b]⟩
abbrev q176g1(a b:PV):Q:=⟨131,[a,b]⟩
abbrev q187(a:PV):Q:=⟨132,[a]⟩
abbrev q120(a b c d e f g h i j k:PV):Q:=⟨134,[a,b,c,d,e,f,g,h,i,j,k]⟩
abbrev q155(a b c d e f g h i j k:PV):Q:=⟨135,[a,b,c,d,e,f,g,h,i,j,k]⟩
abbrev q157g0(a b:PV):Q:=⟨136,[a,b]⟩
abbrev q157g1(a b:PV):Q:=⟨137,[a,b]⟩
abbrev q143(a:PV):Q:=⟨138,[a]⟩
abbrev q159(a:PV):Q:=⟨139,[a]⟩
abbrev q159b0a(a b c:PV):Q:=⟨140,[a,b,c]⟩
abbrev q161(a b c d e:PV):Q:=⟨141,[a,b,c,d,e]⟩
abbrev q161b0a(a b c d e f g:PV):Q:=⟨142,[a,b,c,d,e,f,g]⟩
abbrev q162(a b c d:PV):Q:=⟨143,[a,b,c,d]⟩
abbrev q162b0a(a b c d e f:PV):Q:=⟨144,[a,b,c,d,e,f]⟩
abbrev q7(a b c d e f g h i j k l:PV):Q:=⟨145,[a,b,c,d,e,f,g,h,i,j,k,l]⟩
abbrev q24(a b c d e f g h i j k l:PV):Q:=⟨146,[a,b,c,d,e,f,g,h,i,j,k,l]⟩
abbrev q24b0a(a b c d e f g h i j k l m n:PV):Q:=⟨147,[a,b,c,d,e,f,g,h,i,j,k,l,m,n]⟩
abbrev q24b2a(a b c d e f g h i j k l m n:PV):Q:=⟨148,[a,b,c,d,e,f,g,h,i,j,k,l,m,n]⟩
abbrev q24b4a(a b c d e f g h i j k l m n:PV):Q:=⟨149,[a,b,c,d,e,f,g,h,i,j,k,l,m,n]⟩
abbrev q142(a:PV):Q:=⟨150,[a]⟩
abbrev q142b0a(a:PV)(b:List (List PV))(c:PV):Q:=⟨151,[a,.rows b,c]⟩
abbrev q142b2a(a:PV)(b:List (List PV))(c d:PV):Q:=⟨152,[a,.rows b,c,d]⟩
abbrev q177(a:PV):Q:=⟨153,[a]⟩
abbrev q177b0a(a b c:PV)(d:List (List PV)):Q:=⟨154,[a,b,c,.rows d]⟩
abbrev q177b0b(a b c:PV)(d:List (List PV)):Q:=⟨155,[a,b,c,.rows d]⟩
abbrev q31(a b c d e f g h i j k l m n o p:PV):Q:=⟨156,[a,b,c,d,e,f,g,h,i,j,k,l,m,n,o,p]⟩
abbrev q20(a b c d:PV):Q:=⟨157,[a,b,c,d]⟩
abbrev q49(a b c d e:PV):Q:=⟨158,[a,b,c,d,e]⟩
abbrev q51(a b c d e f:PV):Q:=⟨159,[a,b,c,d,e,f]⟩
abbrev q53(a b c d e f g h:PV):Q:=⟨160,[a,b,c,d,e,f,g,h]⟩
abbrev q90(a b c:PV):Q:=⟨161,[a,b,c]⟩
abbrev q93(a b c d e f:PV):Q:=⟨162,[a,b,c,d,e,f]⟩
abbrev q95(a b c d e:PV):Q:=⟨163,[a,b,c,d,e]⟩
abbrev q21(a b c d:PV):Q:=⟨164,[a,b,c,d]⟩
abbrev q55(a b c d e:PV):Q:=⟨165,[a,b,c,d,e]⟩
abbrev q55b0a(a b c d e f g h i:PV):Q:=⟨166,[a,b,c,d,e,f,g,h,i]⟩
abbrev q55b2a(a b c d e f g h i j k l:PV):Q:=⟨167,[a,b,c,d,e,f,g,h,i,j,k,l]⟩
abbrev q57(a b c d e f:PV):Q:=⟨168,[a,b,c,d,e,f]⟩
abbrev q57b0a(a b c d e f g h i j:PV):Q:=⟨169,[a,b,c,d,e,f,g,h,i,j]⟩
abbrev q57b2a(a b c d:PV):Q:=⟨170,[a,b,c,d]⟩
abbrev q59(a b c d e f g h:PV):Q:=⟨171,[a,b,c,d,e,f,g,h]⟩
abbrev q59b0a(a b c d e f g h i j k l:PV):Q:=⟨172,[a,b,c,d,e,f,g,h,i,j,k,l]⟩
abbrev q59b2a(a b c d:PV):Q:=⟨173,[a,b,c,d]⟩
abbrev q61(a b c d e f g h i j k l m:PV):Q:=⟨174,[a,b,c,d,e,f,g,h,i,j,k,l,m]⟩
abbrev q48a(a:PV):Q:=⟨175,[a]⟩
abbrev q48ab0a(a b c:PV):Q:=⟨176,[a,b,c]⟩
abbrev q50a(a:PV):Q:=⟨177,[a]⟩
abbrev q50ab0a(a b c:PV):Q:=⟨178,[a,b,c]⟩
abbrev q52a(a:PV):Q:=⟨179,[a]⟩
abbrev q52ab0a(a b c:PV):Q:=⟨180,[a,b,c]⟩
abbrev q91a(a:PV):Q:=⟨181,[a]⟩
abbrev q91ab0a(a b c:PV):Q:=⟨182,[a,b,c]⟩
abbrev q92a(a:PV):Q:=⟨183,[a]⟩
abbrev q92ab0a(a b c:PV):Q:=⟨184,[a,b,c]⟩
abbrev q91b(a:PV):Q:=⟨185,[a]⟩
abbrev q91bb0a(a b c:PV):Q:=⟨186,[a,b,c]⟩
abbrev q94a(a:PV):Q:=⟨187,[a]⟩
abbrev q94ab0a(a b c:PV):Q:=⟨188,[a,b,c]⟩
abbrev q96a(a:PV):Q:=⟨189,[a]⟩
abbrev q96ab0a(a b c:PV):Q:=⟨190,[a,b,c]⟩
abbrev q54a(a:PV):Q:=⟨191,[a]⟩
abbrev q54ab0a(a b c d:PV):Q:=⟨192,[a,b,c,d]⟩
abbrev q56a(a:PV):Q:=⟨193,[a]⟩
abbrev q56ab0a(a b c d:PV):Q:=⟨194,[a,b,c,d]⟩
abbrev q58a(a:PV):Q:=⟨195,[a]⟩
abbrev q58ab0a(a b c d:PV):Q:=⟨196,[a,b,c,d]⟩
abbrev q60a(a:PV):Q:=⟨197,[a]⟩
abbrev q60ab0a(a b c d:PV):Q:=⟨198,[a,b,c,d]⟩
abbrev q18(a b c d:PV):Q:=⟨199,[a,b,c,d]⟩
abbrev q18b0a(a b c d e f g:PV):Q:=⟨200,[a,b,c,d,e,f,g]⟩
abbrev q18b2a(a b c d e f g h i j:PV):Q:=⟨201,[a,b,c,d,e,f,g,h,i,j]⟩
abbrev q18b4a(a b c d e f g:PV):Q:=⟨202,[a,b,c,d,e,f,g]⟩
abbrev q18b6a(a b c d e f g h i j:PV):Q:=⟨203,[a,b,c,d,e,f,g,h,i,j]⟩
abbrev q18b8a(a b c d e f g:PV):Q:=⟨204,[a,b,c,d,e,f,g]⟩
abbrev q18b10a(a b c:PV):Q:=⟨205,[a,b,c]⟩
abbrev q19(a b c d:PV):Q:=⟨206,[a,b,c,d]⟩
abbrev q19b0a(a b c d e:PV):Q:=⟨207,[a,b,c,d,e]⟩
abbrev q19b2a(a b c d e:PV):Q:=⟨208,[a,b,c,d,e]⟩
abbrev q19b4a(a b c d e:PV):Q:=⟨209,[a,b,c,d,e]⟩
abbrev q45(a b c d e:PV):Q:=⟨210,[a,b,c,d,e]⟩
abbrev q45b0a(a b c d e f:PV):Q:=⟨211,[a,b,c,d,e,f]⟩
abbrev q45b2a(a b c d e f:PV):Q:=⟨212,[a,b,c,d,e,f]⟩
abbrev q45b4a(a b c d e f g:PV):Q:=⟨213,[a,b,c,d,e,f,g]⟩
abbrev q46(a b c d e f:PV):Q:=⟨214,[a,b,c,d,e,f]⟩
abbrev q46b0a(a b c d e f g:PV):Q:=⟨215,[a,b,c,d,e,f,g]⟩
abbrev q47(a b c d e f g h:PV):Q:=⟨216,[a,b,c,d,e,f,g,h]⟩
abbrev q47b0a(a b c d e f g h i:PV):Q:=⟨217,[a,b,c,d,e,f,g,h,i]⟩
abbrev q89(a:PV):Q:=⟨218,[a]⟩
abbrev q89b0a(a b:PV):Q:=⟨219,[a,b]⟩
abbrev q64(a b c d e f g h i j k l m:PV):Q:=⟨220,[a,b,c,d,e,f,g,h,i,j,k,l,m]⟩
abbrev q62(a b c:PV):Q:=⟨221,[a,b,c]⟩
abbrev q62b0a(a b c d e:PV):Q:=⟨222,[a,b,c,d,e]⟩
abbrev q22(a b c d:PV):Q:=⟨223,[a,b,c,d]⟩
abbrev q22b0a(a b c d e f:PV):Q:=⟨224,[a,b,c,d,e,f]⟩
abbrev q22b2a(a b c d e f g h i j k l:PV):Q:=⟨225,[a,b,c,d,e,f,g,h,i,j,k,l]⟩
abbrev q22b2b(a:PV)(b:List (List PV))(c d e f g h i j k l m:PV):Q:=⟨226,[a,.rows b,c,d,e,f,g,h,i,j,k,l,m]⟩
abbrev q22b4a(a b c d e f g h i j k l m n:PV):Q:=⟨227,[a,b,c,d,e,f,g,h,i,j,k,l,m,n]⟩
abbrev q22b4b(a b c:PV)(d:List (List PV))(e f g h i j k l m n o:PV):Q:=⟨228,[a,b,c,.rows d,e,f,g,h,i,j,k,l,m,n,o]⟩
abbrev q22b6a(a b c d e f:PV):Q:=⟨229,[a,b,c,d,e,f]⟩
abbrev q22b8a(a b c d e f g h i j k l m:PV):Q:=⟨230,[a,b,c,d,e,f,g,h,i,j,k,l,m]⟩
abbrev q22b10a(a b c d e f g h i j k l m:PV):Q:=⟨231,[a,b,c,d,e,f,g,h,i,j,k,l,m]⟩
abbrev q22b12a(a b c d e f:PV):Q:=⟨232,[a,b,c,d,e,f]⟩
abbrev q22b14a(a b c d e f g h i j k l m n o:PV):Q:=⟨233,[a,b,c,d,e,f,g,h,i,j,k,l,m,n,o]⟩
abbrev q22b14b(a:PV)(b:List (List PV))(c d e f g h i j k l m n o p:PV):Q:=⟨234,[a,.rows b,c,d,e,f,g,h,i,j,k,l,m,n,o,p]⟩
abbrev q22b16a(a b c d e f g h i j k l m n o:PV):Q:=⟨235,[a,b,c,d,e,f,g,h,i,j,k,l,m,n,o]⟩
abbrev q22b18a(a b c d e f:PV):Q:=⟨236,[a,b,c,d,e,f]⟩
abbrev q72(a:PV):Q:=⟨237,[a]⟩
abbrev q73(a:PV):Q:=⟨238,[a]⟩
abbrev q39(a:PV):Q:=⟨239,[a]⟩
abbrev q40(a:PV):Q:=⟨240,[a]⟩
abbrev q43(a:PV):Q:=⟨241,[a]⟩
abbrev q109(a:PV):Q:=⟨242,[a]⟩
abbrev q99(a:PV):Q:=⟨243,[a]⟩
abbrev q70(a:PV):Q:=⟨244,[a]⟩
abbrev q97(a b:PV):Q:=⟨245,[a,b]⟩
abbrev q175(a b:PV):Q:=⟨246,[a,b]⟩
end Go.Proofs.YtkamjbmjjhbjcaaGreatDoor
