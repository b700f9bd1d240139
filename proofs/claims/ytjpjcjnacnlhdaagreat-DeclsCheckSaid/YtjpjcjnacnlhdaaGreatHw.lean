/- Joined. -/
import Derived.Test.YtjpjcjnacnlhdaaGreatBc
import Derived.Test.YtjpjcjnacnlhdaaGreatProg
namespace Go.Proofs.YtjpjcjnacnlhdaaGreat
open Go.RowKit
abbrev qq1(K:Nat)(a:PV):Q:=⟨K,[a]⟩
abbrev qq2(K:Nat)(a b:PV):Q:=⟨K,[a,b]⟩
abbrev qq3(K:Nat)(a b c:PV):Q:=⟨K,[a,b,c]⟩
abbrev qq4(K:Nat)(a b c d:PV):Q:=⟨K,[a,b,c,d]⟩
abbrev qq5(K:Nat)(a b c d e:PV):Q:=⟨K,[a,b,c,d,e]⟩
abbrev qq6(K:Nat)(a b c d e f:PV):Q:=⟨K,[a,b,c,d,e,f]⟩
abbrev qq7(K:Nat)(a b c d e f g:PV):Q:=⟨K,[a,b,c,d,e,f,g]⟩
abbrev qq8(K:Nat)(a b c d e f g h:PV):Q:=⟨K,[a,b,c,d,e,f,g,h]⟩
abbrev qq9(K:Nat)(a b c d e f g h i:PV):Q:=⟨K,[a,b,c,d,e,f,g,h,i]⟩
abbrev qq10(K:Nat)(a b c d e f g h i j:PV):Q:=⟨K,[a,b,c,d,e,f,g,h,i,j]⟩
abbrev qq11(K:Nat)(a b c d e f g h i j k:PV):Q:=⟨K,[a,b,c,d,e,f,g,h,i,j,k]⟩
abbrev qq12(K:Nat)(a b c d e f g h i j k l:PV):Q:=⟨K,[a,b,c,d,e,f,g,h,i,j,k,l]⟩
abbrev qq13(K:Nat)(a b c d e f g h i j k l m:PV):Q:=⟨K,[a,b,c,d,e,f,g,h,i,j,k,l,m]⟩
abbrev qq14(K:Nat)(a b c d e f g h i j k l m n:PV):Q:=⟨K,[a,b,c,d,e,f,g,h,i,j,k,l,m,n]⟩
abbrev qq15(K:Nat)(a b c d e f g h i j k l m n o:PV):Q:=⟨K,[a,b,c,d,e,f,g,h,i,j,k,l,m,n,o]⟩
abbrev qq16(K:Nat)(a b c d e f g h i j k l m n o p:PV):Q:=⟨K,[a,b,c,d,e,f,g,h,i,j,k,l,m,n,o,p]⟩
abbrev qq17(K:Nat)(a b c d e f g h i j k l m n o p q:PV):Q:=⟨K,[a,b,c,d,e,f,g,h,i,j,k,l,m,n,o,p,q]⟩
abbrev qq18(K:Nat)(a b c d e f g h i j k l m n o p q r:PV):Q:=⟨K,[a,b,c,d,e,f,g,h,i,j,k,l,m,n,o,p,q,r]⟩
abbrev qq19(K:Nat)(a b c d e f g h i j k l m n o p q r s:PV):Q:=⟨K,[a,b,c,d,e,f,g,h,i,j,k,l,m,n,o,p,q,r,s]⟩
abbrev qq20(K:Nat)(a b c d e f g h i j k l m n o p q r s t:PV):Q:=⟨K,[a,b,c,d,e,f,g,h,i,j,k,l,m,n,o,p,q,r,s,t]⟩
abbrev qq21(K:Nat)(a b c d e f g h i j k l m n o p q r s t u:PV):Q:=⟨K,[a,b,c,d,e,f,g,h,i,j,k,l,m,n,o,p,q,r,s,t,u]⟩
abbrev qq22(K:Nat)(a b c d e f g h i j k l m n o p q r s t u v:PV):Q:=⟨K,[a,b,c,d,e,f,g,h,i,j,k,l,m,n,o,p,q,r,s,t,u,v]⟩
abbrev qq23(K:Nat)(a b c d e f g h i j k l m n o p q r s t u v w:PV):Q:=⟨K,[a,b,c,d,e,f,g,h,i,j,k,l,m,n,o,p,q,r,s,t,u,v,w]⟩
abbrev qq24(K:Nat)(a b c d e f g h i j k l m n o p q r s t u v w x:PV):Q:=⟨K,[a,b,c,d,e,f,g,h,i,j,k,l,m,n,o,p,q,r,s,t,u,v,w,x]⟩
abbrev qq25(K:Nat)(a b c d e f g h i j k l m n o p q r s t u v w x y:PV):Q:=⟨K,[a,b,c,d,e,f,g,h,i,j,k,l,m,n,o,p,q,r,s,t,u,v,w,x,y]⟩
abbrev qq26(K:Nat)(a b c d e f g h i j k l m n o p q r s t u v w x y z:PV):Q:=⟨K,[a,b,c,d,e,f,g,h,i,j,k,l,m,n,o,p,q,r,s,t,u,v,w,x,y,z]⟩
abbrev qq27(K:Nat)(a b c d e f g h i j k l m n o p q r s t u v w x y z a1:PV):Q:=⟨K,[a,b,c,d,e,f,g,h,i,j,k,l,m,n,o,p,q,r,s,t,u,v,w,x,y,z,a1]⟩
abbrev qq28(K:Nat)(a b c d e f g h i j k l m n o p q r s t u v w x y z a1 b1:PV):Q:=⟨K,[a,b,c,d,e,f,g,h,i,j,k,l,m,n,o,p,q,r,s,t,u,v,w,x,y,z,a1,b1]⟩
noncomputable abbrev PG:Program:=Tryz.prog
abbrev bt:PV:=.lit (.bool true)
abbrev bf:PV:=.lit (.bool false)
abbrev nS:PV:=.lit (.slice none 0 0)
abbrev e0:PV:=.lit (.string ⟨#[]⟩)
abbrev i0:PV:=.lit (.int .i64 0)
abbrev i1:PV:=.lit (.int .i64 1)
abbrev i2:PV:=.lit (.int .i64 2)
abbrev i3:PV:=.lit (.int .i64 3)
abbrev i4:PV:=.lit (.int .i64 4)
abbrev i5:PV:=.lit (.int .i64 5)
abbrev i6:PV:=.lit (.int .i64 6)
abbrev i7:PV:=.lit (.int .i64 7)
abbrev i8:PV:=.lit (.int .i64 8)
abbrev i9:PV:=.lit (.int .i64 9)
abbrev z0:PV:=.lit (.string ⟨#[45,62]⟩)
abbrev z1:PV:=.lit (.string ⟨#[82,101,102]⟩)
abbrev z2:PV:=.lit (.string ⟨#[83,116,114,105,110,103]⟩)
abbrev z3:PV:=.lit (.string ⟨#[73,110,116]⟩)
abbrev z4:PV:=.lit (.string ⟨#[33,36,37,38,42,43,46,47,60,61,62,63,64,94,124,126,58,45]⟩)
abbrev z5:PV:=.lit (.string ⟨#[40]⟩)
abbrev z6:PV:=.lit (.string ⟨#[41]⟩)
abbrev z7:PV:=.lit (.string ⟨#[44]⟩)
abbrev z8:PV:=.lit (.string ⟨#[59]⟩)
abbrev z9:PV:=.lit (.string ⟨#[92]⟩)
abbrev z10:PV:=.lit (.string ⟨#[95]⟩)
abbrev z11:PV:=.lit (.string ⟨#[61]⟩)
abbrev z12:PV:=.lit (.string ⟨#[124]⟩)
abbrev z13:PV:=.lit (.string ⟨#[58]⟩)
abbrev z14:PV:=.lit (.string ⟨#[100,97,116,97]⟩)
abbrev z15:PV:=.lit (.string ⟨#[99,108,97,115,115]⟩)
abbrev z16:PV:=.lit (.string ⟨#[105,110,115,116,97,110,99,101]⟩)
abbrev z17:PV:=.lit (.string ⟨#[102,114,111,109]⟩)
abbrev z18:PV:=.lit (.string ⟨#[119,104,101,114,101]⟩)
abbrev z19:PV:=.lit (.string ⟨#[101,110,100]⟩)
abbrev z20:PV:=.lit (.string ⟨#[100,101,114,105,118,105,110,103]⟩)
abbrev z21:PV:=.lit (.string ⟨#[100,101,102]⟩)
abbrev z22:PV:=.lit (.string ⟨#[108,101,116]⟩)
abbrev z23:PV:=.lit (.string ⟨#[114,101,99]⟩)
abbrev z24:PV:=.lit (.string ⟨#[97,110,100]⟩)
abbrev z25:PV:=.lit (.string ⟨#[105,110]⟩)
abbrev z26:PV:=.lit (.string ⟨#[99,97,115,101]⟩)
abbrev z27:PV:=.lit (.string ⟨#[111,102]⟩)
abbrev z28:PV:=.lit (.string ⟨#[105,102]⟩)
abbrev z29:PV:=.lit (.string ⟨#[116,104,101,110]⟩)
abbrev z30:PV:=.lit (.string ⟨#[101,108,115,101]⟩)
abbrev z31:PV:=.lit (.string ⟨#[110,116,34,92]⟩)
abbrev z32:PV:=.lit (.string ⟨#[124,124]⟩)
abbrev z33:PV:=.lit (.string ⟨#[38,38]⟩)
abbrev z34:PV:=.lit (.string ⟨#[58,61]⟩)
abbrev z35:PV:=.lit (.string ⟨#[61,61]⟩)
abbrev z36:PV:=.lit (.string ⟨#[47,61]⟩)
abbrev z37:PV:=.lit (.string ⟨#[60]⟩)
abbrev z38:PV:=.lit (.string ⟨#[60,61]⟩)
abbrev z39:PV:=.lit (.string ⟨#[62]⟩)
abbrev z40:PV:=.lit (.string ⟨#[62,61]⟩)
abbrev z41:PV:=.lit (.string ⟨#[58,58]⟩)
abbrev z42:PV:=.lit (.string ⟨#[94]⟩)
abbrev z43:PV:=.lit (.string ⟨#[43]⟩)
abbrev z44:PV:=.lit (.string ⟨#[45]⟩)
abbrev z45:PV:=.lit (.string ⟨#[42]⟩)
abbrev z46:PV:=.lit (.string ⟨#[47]⟩)
abbrev z47:PV:=.lit (.string ⟨#[37]⟩)
abbrev z48:PV:=.lit (.string ⟨#[85,110,105,116]⟩)
abbrev nL:PV:=.lit (.slice none 0 0)
noncomputable def cI(s:List PV)(v:PV)(k:List PV→Res):Res:=consK .fail s fun y r=>isK .fail v y (k r)
def cC(s:List PV)(k:PV→List PV→Res):Res:=consK .fail s k
def cN(s:List PV)(k:Res):Res:=nilK .fail s k
noncomputable def cL:List PV→List PV→(List PV→Res)→Res
 |[],s,k=>k s
 |v::vs,s,k=>cI s v fun s=>cL vs s k
@[simp] theorem cI_cons(y:PV)(r:List PV)(v:PV)(k:List PV→Res):cI (y::r) v k=isK .fail v y (k r):=rfl
@[simp] theorem cC_cons(y:PV)(r:List PV)(k:PV→List PV→Res):cC (y::r) k=k y r:=rfl
@[simp] theorem cI_nil(v:PV)(k:List PV→Res):cI [] v k=.fail:=rfl
@[simp] theorem cC_nil(k:PV→List PV→Res):cC [] k=.fail:=rfl
@[simp] theorem cN_nil(k:Res):cN [] k=k:=rfl
@[simp] theorem cN_cons(y:PV)(r:List PV)(k:Res):cN (y::r) k=.fail:=rfl
@[simp] theorem cL_nil(s:List PV)(k:List PV→Res):cL [] s k=k s:=rfl
@[simp] theorem cL_cons(v:PV)(vs:List PV)(y:PV)(r:List PV)(k:List PV→Res):cL (v::vs) (y::r) k=isK .fail v y (cL vs r k):=rfl
@[simp] theorem cL_out(v:PV)(vs:List PV)(k:List PV→Res):cL (v::vs) [] k=.fail:=rfl
@[simp] noncomputable def bI(b:BinOp)(t:TypeId)(u v r:PV)(k:Res):Res:=binK PG .fail b t (.pv u) (.pv v) fun w=>pvK .fail w fun y=>isK .fail r y k
@[simp] noncomputable def bV(b:BinOp)(t:TypeId)(u v:PV)(k:PV→Res):Res:=binK PG .fail b t (.pv u) (.pv v) fun w=>pvK .fail w k
@[simp] noncomputable def lV(t:TypeId)(u:PV)(k:PV→Res):Res:=lenK PG .fail t (.pv u) fun w=>pvK .fail w k
@[simp] noncomputable def xV(t:TypeId)(u i:PV)(k:List PV→Res):Res:=idxK PG .fail t (.pv u) (.pv i) fun w=>cptrK .fail w k
@[simp] noncomputable def bA(b:BinOp)(t:TypeId)(u v:PV)(k1 k2:Res):Res:=Res.alt (bI b t u v (.lit (.bool true)) k1) (bI b t u v (.lit (.bool false)) k2)
@[simp] noncomputable def cA(o:Option Rs)(m n:Nat)(k1 k2:List PV→Res):Res:=Res.alt (callK o m k1) (callK o n k2)
class R (T:Type) where
 U:Type
 TW:BinOp→TypeId→PV→PV→T→T→T
 E3:PV→PV→T→T→T
 L3:PV→PV→T→T→T
 N3:PV→PV→T→T→T
 G3:PV→PV→T→T→T
 H3:PV→PV→T→T→T
 K3:PV→PV→T→T→T
 E5:PV→PV→T→T→T
 N9:PV→PV→T→T→T
 E9:PV→PV→T→T→T
 B:BinOp→TypeId→PV→PV→(PV→T)→T
 A3:PV→PV→(PV→T)→T
 S3:PV→PV→(PV→T)→T
 L:TypeId→PV→(PV→T)→T
 I:TypeId→PV→PV→(PV→T)→T
 V:TypeId→TypeId→PV→(PV→T)→T
 S:TypeId→PV→Option AV→Option AV→(PV→T)→T
 P:TypeId→PV→PV→(PV→T)→T
 P0:TypeId→PV→PV→T→T
 M:Bool→PV→PV→(PV→T)→T
 WI:TypeId→PV→AV→Bool→PV→T→T
 WT:TypeId→PV→AV→Bool→PV→(PV→T)→T
 Z:TypeId→PV→AV→AV→(PV→T)→T
 X:TypeId→PV→PV→U→T
 J:T→T→T
 C:Nat→List PV→Nat→U→T
 C0:Nat→List PV→U→T
 D:Nat→List PV→Nat→Nat→U→U→T
 Q0:Nat→List PV→T→T→T
 Q5:Nat→List PV→(PV→PV→PV→PV→PV→T)→(PV→PV→PV→PV→PV→T)→T
 O:Nat→List PV→T
 O0:List PV→T
 Y:Nat→List PV→T
 z:T→U
 ms:List PV→U→U
 mz:List PV→T→U
 v1:(PV→U)→U
 w1:(PV→T)→U
@[simp ↓] abbrev R.v2{T:Type}[R T](k:PV→PV→R.U T):R.U T:=R.v1 fun a=>R.v1 (k a)
@[simp ↓] abbrev R.v3{T:Type}[R T](k:PV→PV→PV→R.U T):R.U T:=R.v1 fun a=>R.v2 (k a)
@[simp ↓] abbrev R.v4{T:Type}[R T](k:PV→PV→PV→PV→R.U T):R.U T:=R.v1 fun a=>R.v3 (k a)
@[simp ↓] abbrev R.v5{T:Type}[R T](k:PV→PV→PV→PV→PV→R.U T):R.U T:=R.v1 fun a=>R.v4 (k a)
@[simp ↓] abbrev R.v6{T:Type}[R T](k:PV→PV→PV→PV→PV→PV→R.U T):R.U T:=R.v1 fun a=>R.v5 (k a)
@[simp ↓] abbrev R.v7{T:Type}[R T](k:PV→PV→PV→PV→PV→PV→PV→R.U T):R.U T:=R.v1 fun a=>R.v6 (k a)
@[simp ↓] abbrev R.v8{T:Type}[R T](k:PV→PV→PV→PV→PV→PV→PV→PV→R.U T):R.U T:=R.v1 fun a=>R.v7 (k a)
@[simp ↓] abbrev R.v9{T:Type}[R T](k:PV→PV→PV→PV→PV→PV→PV→PV→PV→R.U T):R.U T:=R.v1 fun a=>R.v8 (k a)
@[simp ↓] abbrev R.v10{T:Type}[R T](k:PV→PV→PV→PV→PV→PV→PV→PV→PV→PV→R.U T):R.U T:=R.v1 fun a=>R.v9 (k a)
@[simp ↓] abbrev R.v11{T:Type}[R T](k:PV→PV→PV→PV→PV→PV→PV→PV→PV→PV→PV→R.U T):R.U T:=R.v1 fun a=>R.v10 (k a)
@[simp ↓] abbrev R.v12{T:Type}[R T](k:PV→PV→PV→PV→PV→PV→PV→PV→PV→PV→PV→PV→R.U T):R.U T:=R.v1 fun a=>R.v11 (k a)
@[simp ↓] abbrev R.v13{T:Type}[R T](k:PV→PV→PV→PV→PV→PV→PV→PV→PV→PV→PV→PV→PV→R.U T):R.U T:=R.v1 fun a=>R.v12 (k a)
@[simp ↓] abbrev R.v14{T:Type}[R T](k:PV→PV→PV→PV→PV→PV→PV→PV→PV→PV→PV→PV→PV→PV→R.U T):R.U T:=R.v1 fun a=>R.v13 (k a)
@[simp ↓] abbrev R.v15{T:Type}[R T](k:PV→PV→PV→PV→PV→PV→PV→PV→PV→PV→PV→PV→PV→PV→PV→R.U T):R.U T:=R.v1 fun a=>R.v14 (k a)
@[simp ↓] abbrev R.v16{T:Type}[R T](k:PV→PV→PV→PV→PV→PV→PV→PV→PV→PV→PV→PV→PV→PV→PV→PV→R.U T):R.U T:=R.v1 fun a=>R.v15 (k a)
@[simp ↓] abbrev R.w2{T:Type}[R T](k:PV→PV→T):R.U T:=R.v1 fun a=>R.w1 (k a)
@[simp ↓] abbrev R.w3{T:Type}[R T](k:PV→PV→PV→T):R.U T:=R.v1 fun a=>R.w2 (k a)
@[simp ↓] abbrev R.w4{T:Type}[R T](k:PV→PV→PV→PV→T):R.U T:=R.v1 fun a=>R.w3 (k a)
@[simp ↓] abbrev R.w5{T:Type}[R T](k:PV→PV→PV→PV→PV→T):R.U T:=R.v1 fun a=>R.w4 (k a)
@[simp ↓] abbrev R.w6{T:Type}[R T](k:PV→PV→PV→PV→PV→PV→T):R.U T:=R.v1 fun a=>R.w5 (k a)
@[simp ↓] abbrev R.w7{T:Type}[R T](k:PV→PV→PV→PV→PV→PV→PV→T):R.U T:=R.v1 fun a=>R.w6 (k a)
@[simp ↓] abbrev R.w8{T:Type}[R T](k:PV→PV→PV→PV→PV→PV→PV→PV→T):R.U T:=R.v1 fun a=>R.w7 (k a)
@[simp ↓] abbrev R.w9{T:Type}[R T](k:PV→PV→PV→PV→PV→PV→PV→PV→PV→T):R.U T:=R.v1 fun a=>R.w8 (k a)
@[simp ↓] abbrev R.w10{T:Type}[R T](k:PV→PV→PV→PV→PV→PV→PV→PV→PV→PV→T):R.U T:=R.v1 fun a=>R.w9 (k a)
@[simp ↓] abbrev R.w11{T:Type}[R T](k:PV→PV→PV→PV→PV→PV→PV→PV→PV→PV→PV→T):R.U T:=R.v1 fun a=>R.w10 (k a)
@[simp ↓] abbrev R.w12{T:Type}[R T](k:PV→PV→PV→PV→PV→PV→PV→PV→PV→PV→PV→PV→T):R.U T:=R.v1 fun a=>R.w11 (k a)
@[simp ↓] abbrev R.w13{T:Type}[R T](k:PV→PV→PV→PV→PV→PV→PV→PV→PV→PV→PV→PV→PV→T):R.U T:=R.v1 fun a=>R.w12 (k a)
@[simp ↓] abbrev R.w14{T:Type}[R T](k:PV→PV→PV→PV→PV→PV→PV→PV→PV→PV→PV→PV→PV→PV→T):R.U T:=R.v1 fun a=>R.w13 (k a)
@[simp ↓] abbrev R.w15{T:Type}[R T](k:PV→PV→PV→PV→PV→PV→PV→PV→PV→PV→PV→PV→PV→PV→PV→T):R.U T:=R.v1 fun a=>R.w14 (k a)
@[simp ↓] abbrev R.w16{T:Type}[R T](k:PV→PV→PV→PV→PV→PV→PV→PV→PV→PV→PV→PV→PV→PV→PV→PV→T):R.U T:=R.v1 fun a=>R.w15 (k a)
@[simp ↓] abbrev R.w17{T:Type}[R T](k:PV→PV→PV→PV→PV→PV→PV→PV→PV→PV→PV→PV→PV→PV→PV→PV→PV→T):R.U T:=R.v1 fun a=>R.w16 (k a)
@[simp ↓] abbrev R.w18{T:Type}[R T](k:PV→PV→PV→PV→PV→PV→PV→PV→PV→PV→PV→PV→PV→PV→PV→PV→PV→PV→T):R.U T:=R.v1 fun a=>R.w17 (k a)
abbrev Rf:Type:=Nat→Et
abbrev Ru:Type:=Nat→List PV×Et
abbrev Sm:Type:=(Q→Option Rs)→Res
abbrev Su:Type:=(Q→Option Rs)→List PV→Res
instance:R Rf where
 U:=Ru
 TW:=fun b t u v x y n=>.alt (.say (.bin b t (.pv u) (.pv v) (.pv bt)) (x n)) (.say (.bin b t (.pv u) (.pv v) (.pv bf)) (y n))
 E3:=fun u v x y n=>.alt (.say (.bin .eql 3 (.pv u) (.pv v) (.pv bt)) (x n)) (.say (.bin .eql 3 (.pv u) (.pv v) (.pv bf)) (y n))
 L3:=fun u v x y n=>.alt (.say (.bin .lss 3 (.pv u) (.pv v) (.pv bt)) (x n)) (.say (.bin .lss 3 (.pv u) (.pv v) (.pv bf)) (y n))
 N3:=fun u v x y n=>.alt (.say (.bin .neq 3 (.pv u) (.pv v) (.pv bt)) (x n)) (.say (.bin .neq 3 (.pv u) (.pv v) (.pv bf)) (y n))
 G3:=fun u v x y n=>.alt (.say (.bin .gtr 3 (.pv u) (.pv v) (.pv bt)) (x n)) (.say (.bin .gtr 3 (.pv u) (.pv v) (.pv bf)) (y n))
 H3:=fun u v x y n=>.alt (.say (.bin .geq 3 (.pv u) (.pv v) (.pv bt)) (x n)) (.say (.bin .geq 3 (.pv u) (.pv v) (.pv bf)) (y n))
 K3:=fun u v x y n=>.alt (.say (.bin .leq 3 (.pv u) (.pv v) (.pv bt)) (x n)) (.say (.bin .leq 3 (.pv u) (.pv v) (.pv bf)) (y n))
 E5:=fun u v x y n=>.alt (.say (.bin .eql 5 (.pv u) (.pv v) (.pv bt)) (x n)) (.say (.bin .eql 5 (.pv u) (.pv v) (.pv bf)) (y n))
 N9:=fun u v x y n=>.alt (.say (.bin .neq 9 (.pv u) (.pv v) (.pv bt)) (x n)) (.say (.bin .neq 9 (.pv u) (.pv v) (.pv bf)) (y n))
 E9:=fun u v x y n=>.alt (.say (.bin .eql 9 (.pv u) (.pv v) (.pv bt)) (x n)) (.say (.bin .eql 9 (.pv u) (.pv v) (.pv bf)) (y n))
 B:=fun b t u v k n=>.say (.bin b t (.pv u) (.pv v) (.pv (.sym n))) (k (.sym n) (n+1))
 A3:=fun u v k n=>.say (.bin .add 3 (.pv u) (.pv v) (.pv (.sym n))) (k (.sym n) (n+1))
 S3:=fun u v k n=>.say (.bin .sub 3 (.pv u) (.pv v) (.pv (.sym n))) (k (.sym n) (n+1))
 L:=fun t u k n=>.say (.len t (.pv u) (.pv (.sym n))) (k (.sym n) (n+1))
 I:=fun t u i k n=>.say (.ind t (.pv u) (.pv i) (.pv (.sym n))) (k (.sym n) (n+1))
 V:=fun s t u k n=>.say (.conv s t (.pv u) (.pv (.sym n))) (k (.sym n) (n+1))
 S:=fun t u a b k n=>.say (.slc t (.pv u) a b (.pv (.sym n))) (k (.sym n) (n+1))
 P:=fun t u x k n=>.say (.app t (.pv u) (.pv x) n) (k (.sym n) (n+1))
 P0:=fun t u x y n=>.say (.app0 t (.pv u) (.pv x)) (y n)
 M:=fun t u x k n=>.say (.mx t (.pv u) (.pv x) (.pv (.sym n))) (k (.sym n) (n+1))
 WI:=fun t u a b r x n=>.say (.look t u a (.pv r) b) (x n)
 WT:=fun t u a b q k n=>.say (.look t u a (.tup [.pv (.sym n),.pv q]) b) (k (.sym n) (n+1))
 Z:=fun t u a v k n=>.say (.upd t u a v n) (k (.sym n) (n+1))
 X:=fun t u i k n=>.say (.idx t (.pv u) (.pv i) (.cptr (k n).1)) (k n).2
 J:=fun x y n=>.alt (x n) (y n)
 C:=fun q p s k n=>.call q p s (k n).1 (k n).2
 C0:=fun q p k n=>.call q p 0 (k n).1 (k n).2
 D:=fun q p s t k l n=>.alt (.call q p s (k n).1 (k n).2) (.call q p t (l n).1 (l n).2)
 Q0:=fun q p x y n=>.alt (.call q p 0 [bt] (x n)) (.call q p 0 [bf] (y n))
 Q5:=fun q p x y n=>.alt (.call q p 0 [.sym n,.sym (n+1),.sym (n+2),.sym (n+3),.sym (n+4),bt] (x (.sym n) (.sym (n+1)) (.sym (n+2)) (.sym (n+3)) (.sym (n+4)) (n+5))) (.call q p 0 [.sym n,.sym (n+1),.sym (n+2),.sym (n+3),.sym (n+4),bf] (y (.sym n) (.sym (n+1)) (.sym (n+2)) (.sym (n+3)) (.sym (n+4)) (n+5)))
 O:=fun s p n=>.out s p
 O0:=fun p n=>.out 0 p
 Y:=fun q p n=>.goto q p
 z:=fun x n=>([],x n)
 ms:=fun p k n=>(p++(k n).1,(k n).2)
 mz:=fun p x n=>(p,x n)
 v1:=fun k n=>([.sym n]++(k (.sym n) (n+1)).1,(k (.sym n) (n+1)).2)
 w1:=fun k n=>([.sym n],k (.sym n) (n+1))
noncomputable instance:R Sm where
 U:=Su
 TW:=fun b t u v x y O=>bA b t u v (x O) (y O)
 E3:=fun u v x y O=>bA .eql 3 u v (x O) (y O)
 L3:=fun u v x y O=>bA .lss 3 u v (x O) (y O)
 N3:=fun u v x y O=>bA .neq 3 u v (x O) (y O)
 G3:=fun u v x y O=>bA .gtr 3 u v (x O) (y O)
 H3:=fun u v x y O=>bA .geq 3 u v (x O) (y O)
 K3:=fun u v x y O=>bA .leq 3 u v (x O) (y O)
 E5:=fun u v x y O=>bA .eql 5 u v (x O) (y O)
 N9:=fun u v x y O=>bA .neq 9 u v (x O) (y O)
 E9:=fun u v x y O=>bA .eql 9 u v (x O) (y O)
 B:=fun b t u v k O=>bV b t u v fun y=>k y O
 A3:=fun u v k O=>bV .add 3 u v fun y=>k y O
 S3:=fun u v k O=>bV .sub 3 u v fun y=>k y O
 L:=fun t u k O=>lV t u fun y=>k y O
 I:=fun t u i k O=>indK PG .fail t (.pv u) (.pv i) fun w=>pvK .fail w fun y=>k y O
 V:=fun s t u k O=>convK PG .fail s t (.pv u) fun w=>pvK .fail w fun y=>k y O
 S:=fun t u a b k O=>slcK PG .fail t (.pv u) a b fun w=>pvK .fail w fun y=>k y O
 P:=fun t u x k O=>appK PG .fail t (.pv u) (.pv x) fun y=>k y O
 P0:=fun t u x y O=>app0K PG .fail t (.pv u) (.pv x) (y O)
 M:=fun t u x k O=>mxK PG .fail t (.pv u) (.pv x) fun w=>pvK .fail w fun y=>k y O
 WI:=fun t u a b r x O=>lookK PG .fail t u a b fun w=>pvK .fail w fun y=>isK .fail r y (x O)
 WT:=fun t u a b q k O=>lookK PG .fail t u a b fun w=>pairK .fail w fun y z=>isK .fail q z (k y O)
 Z:=fun t u a v k O=>updK PG .fail t u a v fun y=>k y O
 X:=fun t u i k O=>xV t u i fun s=>k O s
 J:=fun x y O=>Res.alt (x O) (y O)
 C:=fun q p s k O=>callK (O ⟨q,p⟩) s fun s=>k O s
 C0:=fun q p k O=>callK (O ⟨q,p⟩) 0 fun s=>k O s
 D:=fun q p s t k l O=>cA (O ⟨q,p⟩) s t (fun s=>k O s) fun s=>l O s
 Q0:=fun q p x y O=>cA (O ⟨q,p⟩) 0 0 (fun s=>cI s bt fun s=>cN s (x O)) fun s=>cI s bf fun s=>cN s (y O)
 Q5:=fun q p x y O=>cA (O ⟨q,p⟩) 0 0 (fun s=>cC s fun a s=>cC s fun b s=>cC s fun c s=>cC s fun d s=>cC s fun e s=>cI s bt fun s=>cN s (x a b c d e O)) fun s=>cC s fun a s=>cC s fun b s=>cC s fun c s=>cC s fun d s=>cC s fun e s=>cI s bf fun s=>cN s (y a b c d e O)
 O:=fun s p O=>.ok (s,p)
 O0:=fun p O=>.ok (0,p)
 Y:=fun q p O=>passK (O ⟨q,p⟩)
 z:=fun x O s=>cN s (x O)
 ms:=fun p k O s=>cL p s (k O)
 mz:=fun p x O s=>cL p s fun s=>cN s (x O)
 v1:=fun k O s=>cC s fun av s=>k av O s
 w1:=fun k O s=>cC s fun av s=>cN s (k av O)
@[simp ↓] theorem m_TW{b:BinOp}{t:TypeId}{u v:PV}{x y:Sm}{O}:R.TW (T:=Sm) b t u v x y O=bA b t u v (x O) (y O):=rfl
@[simp ↓] theorem m_E3{u v:PV}{x y:Sm}{O}:R.E3 (T:=Sm) u v x y O=bA .eql 3 u v (x O) (y O):=rfl
@[simp ↓] theorem m_L3{u v:PV}{x y:Sm}{O}:R.L3 (T:=Sm) u v x y O=bA .lss 3 u v (x O) (y O):=rfl
@[simp ↓] theorem m_N3{u v:PV}{x y:Sm}{O}:R.N3 (T:=Sm) u v x y O=bA .neq 3 u v (x O) (y O):=rfl
@[simp ↓] theorem m_G3{u v:PV}{x y:Sm}{O}:R.G3 (T:=Sm) u v x y O=bA .gtr 3 u v (x O) (y O):=rfl
@[simp ↓] theorem m_H3{u v:PV}{x y:Sm}{O}:R.H3 (T:=Sm) u v x y O=bA .geq 3 u v (x O) (y O):=rfl
@[simp ↓] theorem m_K3{u v:PV}{x y:Sm}{O}:R.K3 (T:=Sm) u v x y O=bA .leq 3 u v (x O) (y O):=rfl
@[simp ↓] theorem m_E5{u v:PV}{x y:Sm}{O}:R.E5 (T:=Sm) u v x y O=bA .eql 5 u v (x O) (y O):=rfl
@[simp ↓] theorem m_N9{u v:PV}{x y:Sm}{O}:R.N9 (T:=Sm) u v x y O=bA .neq 9 u v (x O) (y O):=rfl
@[simp ↓] theorem m_E9{u v:PV}{x y:Sm}{O}:R.E9 (T:=Sm) u v x y O=bA .eql 9 u v (x O) (y O):=rfl
@[simp ↓] theorem m_B{b:BinOp}{t:TypeId}{u v:PV}{k:PV→Sm}{O}:R.B (T:=Sm) b t u v k O=bV b t u v fun y=>k y O:=rfl
@[simp ↓] theorem m_A3{u v:PV}{k:PV→Sm}{O}:R.A3 (T:=Sm) u v k O=bV .add 3 u v fun y=>k y O:=rfl
@[simp ↓] theorem m_S3{u v:PV}{k:PV→Sm}{O}:R.S3 (T:=Sm) u v k O=bV .sub 3 u v fun y=>k y O:=rfl
@[simp ↓] theorem m_L{t:TypeId}{u:PV}{k:PV→Sm}{O}:R.L (T:=Sm) t u k O=lV t u fun y=>k y O:=rfl
@[simp ↓] theorem m_I{t:TypeId}{u i:PV}{k:PV→Sm}{O}:R.I (T:=Sm) t u i k O=indK PG .fail t (.pv u) (.pv i) fun w=>pvK .fail w fun y=>k y O:=rfl
@[simp ↓] theorem m_V{s t:TypeId}{u:PV}{k:PV→Sm}{O}:R.V (T:=Sm) s t u k O=convK PG .fail s t (.pv u) fun w=>pvK .fail w fun y=>k y O:=rfl
@[simp ↓] theorem m_S{t:TypeId}{u:PV}{a b:Option AV}{k:PV→Sm}{O}:R.S (T:=Sm) t u a b k O=slcK PG .fail t (.pv u) a b fun w=>pvK .fail w fun y=>k y O:=rfl
@[simp ↓] theorem m_P{t:TypeId}{u x:PV}{k:PV→Sm}{O}:R.P (T:=Sm) t u x k O=appK PG .fail t (.pv u) (.pv x) fun y=>k y O:=rfl
@[simp ↓] theorem m_P0{t:TypeId}{u x:PV}{y:Sm}{O}:R.P0 (T:=Sm) t u x y O=app0K PG .fail t (.pv u) (.pv x) (y O):=rfl
@[simp ↓] theorem m_M{t:Bool}{u x:PV}{k:PV→Sm}{O}:R.M (T:=Sm) t u x k O=mxK PG .fail t (.pv u) (.pv x) fun w=>pvK .fail w fun y=>k y O:=rfl
@[simp ↓] theorem m_WI{t:TypeId}{u:PV}{a:AV}{b:Bool}{r:PV}{x:Sm}{O}:R.WI (T:=Sm) t u a b r x O=lookK PG .fail t u a b fun w=>pvK .fail w fun y=>isK .fail r y (x O):=rfl
@[simp ↓] theorem m_WT{t:TypeId}{u:PV}{a:AV}{b:Bool}{q:PV}{k:PV→Sm}{O}:R.WT (T:=Sm) t u a b q k O=lookK PG .fail t u a b fun w=>pairK .fail w fun y z=>isK .fail q z (k y O):=rfl
@[simp ↓] theorem m_Z{t:TypeId}{u:PV}{a v:AV}{k:PV→Sm}{O}:R.Z (T:=Sm) t u a v k O=updK PG .fail t u a v fun y=>k y O:=rfl
@[simp ↓] theorem m_X{t:TypeId}{u i:PV}{k:Su}{O}:R.X (T:=Sm) t u i k O=xV t u i fun s=>k O s:=rfl
@[simp ↓] theorem m_J{x y:Sm}{O}:R.J (T:=Sm) x y O=Res.alt (x O) (y O):=rfl
@[simp ↓] theorem m_C{q:Nat}{p:List PV}{s:Nat}{k:Su}{O}:R.C (T:=Sm) q p s k O=callK (O ⟨q,p⟩) s fun s=>k O s:=rfl
@[simp ↓] theorem m_C0{q:Nat}{p:List PV}{k:Su}{O}:R.C0 (T:=Sm) q p k O=callK (O ⟨q,p⟩) 0 fun s=>k O s:=rfl
@[simp ↓] theorem m_D{q:Nat}{p:List PV}{s t:Nat}{k l:Su}{O}:R.D (T:=Sm) q p s t k l O=cA (O ⟨q,p⟩) s t (fun s=>k O s) fun s=>l O s:=rfl
@[simp ↓] theorem m_Q0{q:Nat}{p:List PV}{x y:Sm}{O}:R.Q0 (T:=Sm) q p x y O=cA (O ⟨q,p⟩) 0 0 (fun s=>cI s bt fun s=>cN s (x O)) fun s=>cI s bf fun s=>cN s (y O):=rfl
@[simp ↓] theorem m_Q5{q:Nat}{p:List PV}{x y:PV→PV→PV→PV→PV→Sm}{O}:R.Q5 (T:=Sm) q p x y O=cA (O ⟨q,p⟩) 0 0 (fun s=>cC s fun a s=>cC s fun b s=>cC s fun c s=>cC s fun d s=>cC s fun e s=>cI s bt fun s=>cN s (x a b c d e O)) fun s=>cC s fun a s=>cC s fun b s=>cC s fun c s=>cC s fun d s=>cC s fun e s=>cI s bf fun s=>cN s (y a b c d e O):=rfl
@[simp ↓] theorem m_O{s:Nat}{p:List PV}{O}:R.O (T:=Sm) s p O=.ok (s,p):=rfl
@[simp ↓] theorem m_O0{p:List PV}{O}:R.O0 (T:=Sm) p O=.ok (0,p):=rfl
@[simp ↓] theorem m_Y{q:Nat}{p:List PV}{O}:R.Y (T:=Sm) q p O=passK (O ⟨q,p⟩):=rfl
@[simp ↓] theorem m_z{x:Sm}{O}{s:List PV}:R.z (T:=Sm) x O s=cN s (x O):=rfl
@[simp ↓] theorem m_ms{p:List PV}{k:Su}{O}{s:List PV}:R.ms (T:=Sm) p k O s=cL p s (k O):=rfl
@[simp ↓] theorem m_mz{p:List PV}{x:Sm}{O}{s:List PV}:R.mz (T:=Sm) p x O s=cL p s fun s=>cN s (x O):=rfl
@[simp ↓] theorem m_v1{k:PV→Su}{O}{s:List PV}:R.v1 (T:=Sm) k O s=cC s fun av s=>k av O s:=rfl
@[simp ↓] theorem m_w1{k:PV→Sm}{O}{s:List PV}:R.w1 (T:=Sm) k O s=cC s fun av s=>cN s (k av O):=rfl
def k1(g:PV→Rf):Et:=g (.sym 0) 1
def k2(g:PV→PV→Rf):Et:=g (.sym 0) (.sym 1) 2
def k3(g:PV→PV→PV→Rf):Et:=g (.sym 0) (.sym 1) (.sym 2) 3
def k4(g:PV→PV→PV→PV→Rf):Et:=g (.sym 0) (.sym 1) (.sym 2) (.sym 3) 4
def k5(g:PV→PV→PV→PV→PV→Rf):Et:=g (.sym 0) (.sym 1) (.sym 2) (.sym 3) (.sym 4) 5
def k6(g:PV→PV→PV→PV→PV→PV→Rf):Et:=g (.sym 0) (.sym 1) (.sym 2) (.sym 3) (.sym 4) (.sym 5) 6
def k7(g:PV→PV→PV→PV→PV→PV→PV→Rf):Et:=g (.sym 0) (.sym 1) (.sym 2) (.sym 3) (.sym 4) (.sym 5) (.sym 6) 7
def k8(g:PV→PV→PV→PV→PV→PV→PV→PV→Rf):Et:=g (.sym 0) (.sym 1) (.sym 2) (.sym 3) (.sym 4) (.sym 5) (.sym 6) (.sym 7) 8
def k9(g:PV→PV→PV→PV→PV→PV→PV→PV→PV→Rf):Et:=g (.sym 0) (.sym 1) (.sym 2) (.sym 3) (.sym 4) (.sym 5) (.sym 6) (.sym 7) (.sym 8) 9
def k10(g:PV→PV→PV→PV→PV→PV→PV→PV→PV→PV→Rf):Et:=g (.sym 0) (.sym 1) (.sym 2) (.sym 3) (.sym 4) (.sym 5) (.sym 6) (.sym 7) (.sym 8) (.sym 9) 10
def k11(g:PV→PV→PV→PV→PV→PV→PV→PV→PV→PV→PV→Rf):Et:=g (.sym 0) (.sym 1) (.sym 2) (.sym 3) (.sym 4) (.sym 5) (.sym 6) (.sym 7) (.sym 8) (.sym 9) (.sym 10) 11
def k12(g:PV→PV→PV→PV→PV→PV→PV→PV→PV→PV→PV→PV→Rf):Et:=g (.sym 0) (.sym 1) (.sym 2) (.sym 3) (.sym 4) (.sym 5) (.sym 6) (.sym 7) (.sym 8) (.sym 9) (.sym 10) (.sym 11) 12
def k13(g:PV→PV→PV→PV→PV→PV→PV→PV→PV→PV→PV→PV→PV→Rf):Et:=g (.sym 0) (.sym 1) (.sym 2) (.sym 3) (.sym 4) (.sym 5) (.sym 6) (.sym 7) (.sym 8) (.sym 9) (.sym 10) (.sym 11) (.sym 12) 13
def k14(g:PV→PV→PV→PV→PV→PV→PV→PV→PV→PV→PV→PV→PV→PV→Rf):Et:=g (.sym 0) (.sym 1) (.sym 2) (.sym 3) (.sym 4) (.sym 5) (.sym 6) (.sym 7) (.sym 8) (.sym 9) (.sym 10) (.sym 11) (.sym 12) (.sym 13) 14
def k15(g:PV→PV→PV→PV→PV→PV→PV→PV→PV→PV→PV→PV→PV→PV→PV→Rf):Et:=g (.sym 0) (.sym 1) (.sym 2) (.sym 3) (.sym 4) (.sym 5) (.sym 6) (.sym 7) (.sym 8) (.sym 9) (.sym 10) (.sym 11) (.sym 12) (.sym 13) (.sym 14) 15
def k16(g:PV→PV→PV→PV→PV→PV→PV→PV→PV→PV→PV→PV→PV→PV→PV→PV→Rf):Et:=g (.sym 0) (.sym 1) (.sym 2) (.sym 3) (.sym 4) (.sym 5) (.sym 6) (.sym 7) (.sym 8) (.sym 9) (.sym 10) (.sym 11) (.sym 12) (.sym 13) (.sym 14) (.sym 15) 16
def k17(g:PV→PV→PV→PV→PV→PV→PV→PV→PV→PV→PV→PV→PV→PV→PV→PV→PV→Rf):Et:=g (.sym 0) (.sym 1) (.sym 2) (.sym 3) (.sym 4) (.sym 5) (.sym 6) (.sym 7) (.sym 8) (.sym 9) (.sym 10) (.sym 11) (.sym 12) (.sym 13) (.sym 14) (.sym 15) (.sym 16) 17
def k18(g:PV→PV→PV→PV→PV→PV→PV→PV→PV→PV→PV→PV→PV→PV→PV→PV→PV→PV→Rf):Et:=g (.sym 0) (.sym 1) (.sym 2) (.sym 3) (.sym 4) (.sym 5) (.sym 6) (.sym 7) (.sym 8) (.sym 9) (.sym 10) (.sym 11) (.sym 12) (.sym 13) (.sym 14) (.sym 15) (.sym 16) (.sym 17) 18
def k19(g:PV→PV→PV→PV→PV→PV→PV→PV→PV→PV→PV→PV→PV→PV→PV→PV→PV→PV→PV→Rf):Et:=g (.sym 0) (.sym 1) (.sym 2) (.sym 3) (.sym 4) (.sym 5) (.sym 6) (.sym 7) (.sym 8) (.sym 9) (.sym 10) (.sym 11) (.sym 12) (.sym 13) (.sym 14) (.sym 15) (.sym 16) (.sym 17) (.sym 18) 19
def k20(g:PV→PV→PV→PV→PV→PV→PV→PV→PV→PV→PV→PV→PV→PV→PV→PV→PV→PV→PV→PV→Rf):Et:=g (.sym 0) (.sym 1) (.sym 2) (.sym 3) (.sym 4) (.sym 5) (.sym 6) (.sym 7) (.sym 8) (.sym 9) (.sym 10) (.sym 11) (.sym 12) (.sym 13) (.sym 14) (.sym 15) (.sym 16) (.sym 17) (.sym 18) (.sym 19) 20
def k22(g:PV→PV→PV→PV→PV→PV→PV→PV→PV→PV→PV→PV→PV→PV→PV→PV→PV→PV→PV→PV→PV→PV→Rf):Et:=g (.sym 0) (.sym 1) (.sym 2) (.sym 3) (.sym 4) (.sym 5) (.sym 6) (.sym 7) (.sym 8) (.sym 9) (.sym 10) (.sym 11) (.sym 12) (.sym 13) (.sym 14) (.sym 15) (.sym 16) (.sym 17) (.sym 18) (.sym 19) (.sym 20) (.sym 21) 22
def k23(g:PV→PV→PV→PV→PV→PV→PV→PV→PV→PV→PV→PV→PV→PV→PV→PV→PV→PV→PV→PV→PV→PV→PV→Rf):Et:=g (.sym 0) (.sym 1) (.sym 2) (.sym 3) (.sym 4) (.sym 5) (.sym 6) (.sym 7) (.sym 8) (.sym 9) (.sym 10) (.sym 11) (.sym 12) (.sym 13) (.sym 14) (.sym 15) (.sym 16) (.sym 17) (.sym 18) (.sym 19) (.sym 20) (.sym 21) (.sym 22) 23
def k26(g:PV→PV→PV→PV→PV→PV→PV→PV→PV→PV→PV→PV→PV→PV→PV→PV→PV→PV→PV→PV→PV→PV→PV→PV→PV→PV→Rf):Et:=g (.sym 0) (.sym 1) (.sym 2) (.sym 3) (.sym 4) (.sym 5) (.sym 6) (.sym 7) (.sym 8) (.sym 9) (.sym 10) (.sym 11) (.sym 12) (.sym 13) (.sym 14) (.sym 15) (.sym 16) (.sym 17) (.sym 18) (.sym 19) (.sym 20) (.sym 21) (.sym 22) (.sym 23) (.sym 24) (.sym 25) 26
def pR:Nat→Nat→List PV
 |_,0=>[]
 |a,n+1=>.sym a::pR (a+1) n
def wR:Nat→Nat→List AV
 |_,0=>[]
 |a,n+1=>.pv (.sym a)::wR (a+1) n
def nA:AV:=.pv nS
def eA:AV:=.pv e0
def zA:AV:=.pv i0
def tA:AV:=.pv bt
def fA:AV:=.pv bf
def rA(n:Nat):AV:=.ptr n 0
def nR:Nat→List AV
 |0=>[]
 |n+1=>nA::nR n
def tk(t s n:Nat):AObj:=.tok t s (symBase+n)
def eF(f:Nat)(a:List AV)(h:List AObj)(n m:Nat):Ent:={f:=f,args:=a,h:=h,n:=n,fam:=m }
def eL(a b f:Nat)(e:Env)(h:List AObj)(n m:Nat):Ent:={lp:=some (a,b),f:=f,e:=e,h:=h,n:=n,fam:=m }
def rn(r:List Nat)(e:Ent):Ent:={e with rin:=r }
def wkE(e:Ent)(m b:Nat):Ent:={e with fam:=m,base:=some b }
def yU(v:AV)(m:Nat):Shape:={v:=v,m:=m }
def yV(v:AV)(h:List AObj)(m:Nat):Shape:={v:=v,h:=h,m:=m }
def yW(v:AV)(h:List AObj)(m:Nat)(r:List Nat):Shape:={v:=v,h:=h,m:=m,rw:=r }
def yE(x:AExit)(e:Env)(h:List AObj)(m:Nat):Shape:={ex:=x,e:=e,h:=h,m:=m }
def yR(x:AExit)(e:Env)(h:List AObj)(m:Nat)(r:List Nat):Shape:={ex:=x,e:=e,h:=h,m:=m,rw:=r }
def b109_3(a:Nat):AObj:=.box 109 (wR a 3)
def b119_6(a:Nat):AObj:=.box 119 (wR a 6)
def b132_5(a:Nat):AObj:=.box 132 (wR a 5)
def b178_5(a:Nat):AObj:=.box 178 (wR a 5)
def b28_4(a:Nat):AObj:=.box 28 (wR a 4)
def b32_3(a:Nat):AObj:=.box 32 (wR a 3)
def b35_2(a:Nat):AObj:=.box 35 (wR a 2)
def b39_2(a:Nat):AObj:=.box 39 (wR a 2)
def b47_4(a:Nat):AObj:=.box 47 (wR a 4)
def b67_5(a:Nat):AObj:=.box 67 (wR a 5)
def b69_4(a:Nat):AObj:=.box 69 (wR a 4)
def b73_5(a:Nat):AObj:=.box 73 (wR a 5)
def b77_6(a:Nat):AObj:=.box 77 (wR a 6)
def b81_8(a:Nat):AObj:=.box 81 (wR a 8)
def b87_11(a:Nat):AObj:=.box 87 (wR a 11)
def b89_13(a:Nat):AObj:=.box 89 (wR a 13)
def o0:AV:=.pv (.sym 0)
def o1:AV:=.pv (.sym 1)
def o2:AV:=.pv (.sym 2)
def o3:AV:=.pv (.sym 3)
def o4:AV:=.pv (.sym 4)
def o5:AV:=.pv (.sym 5)
def o6:AV:=.pv (.sym 6)
def o7:AV:=.pv (.sym 7)
def o8:AV:=.pv (.sym 8)
def o9:AV:=.pv (.sym 9)
def o10:AV:=.pv (.sym 10)
def o11:AV:=.pv (.sym 11)
def o12:AV:=.pv (.sym 12)
def o13:AV:=.pv (.sym 13)
def o14:AV:=.pv (.sym 14)
def o15:AV:=.pv (.sym 15)
def o16:AV:=.pv (.sym 16)
def o17:AV:=.pv (.sym 17)
def o18:AV:=.pv (.sym 18)
def o19:AV:=.pv (.sym 19)
def o20:AV:=.pv (.sym 20)
def o21:AV:=.pv (.sym 21)
def o22:AV:=.pv (.sym 22)
end Go.Proofs.YtjpjcjnacnlhdaaGreat
