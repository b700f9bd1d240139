/- Joined texts. -/
import Derived.Test.YtfphhabaeggenaaDoorBy
import Derived.Test.YtfphhabaeggenaaDoorBc
import Derived.Test.YtfphhabaeggenaaDoorProg
import Derived.KernelRfl
set_option linter.all false
namespace Go.Proofs.YtfphhabaeggenaaDoor
open Go.RowKit
structure Tk where
 kind:Int
 text:ByteArray
 n:Int
 at_:Int
def Tk.cells(t:Tk):List PV:=[iv t.kind,sv t.text,iv t.n,iv t.at_]
def tks(l:List Tk):PV:=.rows (l.map Tk.cells)
def ofTok(t:Lx.Tok):Tk:=⟨t.kind,t.text,t.n,(t.at_:Int)⟩
def scanV(r:Except (Int×Nat) (List Lx.Tok)):PV×Int×Int:=match r with
 |.ok ts=>(tks (ts.map ofTok),0,0)
 |.error (c,p)=>(.lit (.slice none 0 0),c,(p:Int))
def awkP:List PV→Option Rs
 |[]=>some (0,[.lit (.bool true)])
 |_=>none
def isNilE(r:Except (Int×Nat) (List Lx.Tok)):Bool:=match r with
 |.ok []=>true
 |_=>false
def scnP:List PV→Option Rs
 |[.lit (.string b)]=>if b.size≤1000000∧isNilE (Lx.scanP b)=false then some (0,[(scanV (Lx.scanP b)).1,iv (scanV (Lx.scanP b)).2.1,iv (scanV (Lx.scanP b)).2.2]) else none
 |_=>none
noncomputable abbrev PG:Program:=Tryd.prog
abbrev bt:PV:=.lit (.bool true)
abbrev bf:PV:=.lit (.bool false)
abbrev nS:PV:=.lit (.slice none 0 0)
abbrev e0:PV:=.lit (.string ⟨#[]⟩)
abbrev i0:PV:=.lit (.int .i64 0)
abbrev i1:PV:=.lit (.int .i64 1)
abbrev i2:PV:=.lit (.int .i64 2)
abbrev i3:PV:=.lit (.int .i64 3)
abbrev i4:PV:=.lit (.int .i64 4)
abbrev i5:PV:=.lit (.int .i64 5)
abbrev i6:PV:=.lit (.int .i64 6)
abbrev i7:PV:=.lit (.int .i64 7)
abbrev i8:PV:=.lit (.int .i64 8)
abbrev i9:PV:=.lit (.int .i64 9)
abbrev z0:PV:=.lit (.string ⟨#[37]⟩)
abbrev z1:PV:=.lit (.string ⟨#[47]⟩)
abbrev z2:PV:=.lit (.string ⟨#[42]⟩)
abbrev z3:PV:=.lit (.string ⟨#[45]⟩)
abbrev z4:PV:=.lit (.string ⟨#[43]⟩)
abbrev z5:PV:=.lit (.string ⟨#[94]⟩)
abbrev z6:PV:=.lit (.string ⟨#[58,58]⟩)
abbrev z7:PV:=.lit (.string ⟨#[62,61]⟩)
abbrev z8:PV:=.lit (.string ⟨#[62]⟩)
abbrev z9:PV:=.lit (.string ⟨#[60,61]⟩)
abbrev z10:PV:=.lit (.string ⟨#[60]⟩)
abbrev z11:PV:=.lit (.string ⟨#[47,61]⟩)
abbrev z12:PV:=.lit (.string ⟨#[61,61]⟩)
abbrev z13:PV:=.lit (.string ⟨#[38,38]⟩)
abbrev z14:PV:=.lit (.string ⟨#[124,124]⟩)
abbrev z15:PV:=.lit (.string ⟨#[58,61]⟩)
abbrev z16:PV:=.lit (.string ⟨#[100,97,116,97]⟩)
abbrev z17:PV:=.lit (.string ⟨#[59]⟩)
abbrev z18:PV:=.lit (.string ⟨#[99,108,97,115,115]⟩)
abbrev z19:PV:=.lit (.string ⟨#[105,110,115,116,97,110,99,101]⟩)
abbrev z20:PV:=.lit (.string ⟨#[100,101,102]⟩)
abbrev z21:PV:=.lit (.string ⟨#[61]⟩)
abbrev z22:PV:=.lit (.string ⟨#[100,101,114,105,118,105,110,103]⟩)
abbrev z23:PV:=.lit (.string ⟨#[40]⟩)
abbrev z24:PV:=.lit (.string ⟨#[41]⟩)
abbrev z25:PV:=.lit (.string ⟨#[124]⟩)
abbrev z26:PV:=.lit (.string ⟨#[102,114,111,109]⟩)
abbrev z27:PV:=.lit (.string ⟨#[119,104,101,114,101]⟩)
abbrev z28:PV:=.lit (.string ⟨#[101,110,100]⟩)
abbrev z29:PV:=.lit (.string ⟨#[58]⟩)
abbrev z30:PV:=.lit (.string ⟨#[44]⟩)
abbrev z31:PV:=.lit (.string ⟨#[92]⟩)
abbrev z32:PV:=.lit (.string ⟨#[108,101,116]⟩)
abbrev z33:PV:=.lit (.string ⟨#[105,102]⟩)
abbrev z34:PV:=.lit (.string ⟨#[116,104,101,110]⟩)
abbrev z35:PV:=.lit (.string ⟨#[101,108,115,101]⟩)
abbrev z36:PV:=.lit (.string ⟨#[85,110,105,116]⟩)
abbrev z37:PV:=.lit (.string ⟨#[45,62]⟩)
abbrev z38:PV:=.lit (.string ⟨#[114,101,99]⟩)
abbrev z39:PV:=.lit (.string ⟨#[105,110]⟩)
abbrev z40:PV:=.lit (.string ⟨#[97,110,100]⟩)
abbrev z41:PV:=.lit (.string ⟨#[99,97,115,101]⟩)
abbrev z42:PV:=.lit (.string ⟨#[111,102]⟩)
abbrev z43:PV:=.lit (.string ⟨#[95]⟩)
noncomputable def cI(s:List PV)(v:PV)(k:List PV→Res):Res:=consK .fail s fun y r=>isK .fail v y (k r)
def cC(s:List PV)(k:PV→List PV→Res):Res:=consK .fail s k
def cN(s:List PV)(k:Res):Res:=nilK .fail s k
noncomputable def cL:List PV→List PV→(List PV→Res)→Res
 |[],s,k=>k s
 |v::vs,s,k=>cI s v fun s=>cL vs s k
@[simp] theorem cI_cons(y:PV)(r:List PV)(v:PV)(k:List PV→Res):cI (y::r) v k=isK .fail v y (k r):=rfl
@[simp] theorem cC_cons(y:PV)(r:List PV)(k:PV→List PV→Res):cC (y::r) k=k y r:=rfl
@[simp] theorem cI_nil(v:PV)(k:List PV→Res):cI [] v k=.fail:=rfl
@[simp] theorem cC_nil(k:PV→List PV→Res):cC [] k=.fail:=rfl
@[simp] theorem cN_nil(k:Res):cN [] k=k:=rfl
@[simp] theorem cN_cons(y:PV)(r:List PV)(k:Res):cN (y::r) k=.fail:=rfl
@[simp] theorem cL_nil(s:List PV)(k:List PV→Res):cL [] s k=k s:=rfl
@[simp] theorem cL_cons(v:PV)(vs:List PV)(y:PV)(r:List PV)(k:List PV→Res):cL (v::vs) (y::r) k=isK .fail v y (cL vs r k):=rfl
@[simp] theorem cL_out(v:PV)(vs:List PV)(k:List PV→Res):cL (v::vs) [] k=.fail:=rfl
@[simp] noncomputable def bI(b:BinOp)(t:TypeId)(u v r:PV)(k:Res):Res:=binK PG .fail b t (.pv u) (.pv v) fun w=>pvK .fail w fun y=>isK .fail r y k
@[simp] noncomputable def bV(b:BinOp)(t:TypeId)(u v:PV)(k:PV→Res):Res:=binK PG .fail b t (.pv u) (.pv v) fun w=>pvK .fail w k
@[simp] noncomputable def lV(t:TypeId)(u:PV)(k:PV→Res):Res:=lenK PG .fail t (.pv u) fun w=>pvK .fail w k
@[simp] noncomputable def xV(t:TypeId)(u i:PV)(k:List PV→Res):Res:=idxK PG .fail t (.pv u) (.pv i) fun w=>cptrK .fail w k
@[simp] noncomputable def bA(b:BinOp)(t:TypeId)(u v:PV)(k1 k2:Res):Res:=Res.alt (bI b t u v (.lit (.bool true)) k1) (bI b t u v (.lit (.bool false)) k2)
@[simp] noncomputable def cA(o:Option Rs)(m n:Nat)(k1 k2:List PV→Res):Res:=Res.alt (callK o m k1) (callK o n k2)
class R (T:Type) where
 U:Type
 TW:BinOp→TypeId→PV→PV→T→T→T
 E3:PV→PV→T→T→T
 L3:PV→PV→T→T→T
 N3:PV→PV→T→T→T
 G3:PV→PV→T→T→T
 H3:PV→PV→T→T→T
 N9:PV→PV→T→T→T
 E9:PV→PV→T→T→T
 A3:PV→PV→(PV→T)→T
 S3:PV→PV→(PV→T)→T
 L:TypeId→PV→(PV→T)→T
 S:TypeId→PV→Option AV→Option AV→(PV→T)→T
 P:TypeId→PV→PV→(PV→T)→T
 SE:PV→PV→Nat→List PV→(PV→T)→T
 MK:TypeId→PV→(PV→T)→T
 AQ:TypeId→PV→PV→(PV→T)→T
 X:TypeId→PV→PV→U→T
 J:T→T→T
 C:Nat→List PV→Nat→U→T
 C0:Nat→List PV→U→T
 D:Nat→List PV→Nat→Nat→U→U→T
 Q0:Nat→List PV→T→T→T
 O:Nat→List PV→T
 O0:List PV→T
 Y:Nat→List PV→T
 z:T→U
 ms:List PV→U→U
 mz:List PV→T→U
 v1:(PV→U)→U
 w1:(PV→T)→U
@[simp ↓] abbrev R.v2{T:Type}[R T](k:PV→PV→R.U T):R.U T:=R.v1 fun a=>R.v1 (k a)
@[simp ↓] abbrev R.v3{T:Type}[R T](k:PV→PV→PV→R.U T):R.U T:=R.v1 fun a=>R.v2 (k a)
@[simp ↓] abbrev R.v4{T:Type}[R T](k:PV→PV→PV→PV→R.U T):R.U T:=R.v1 fun a=>R.v3 (k a)
@[simp ↓] abbrev R.v5{T:Type}[R T](k:PV→PV→PV→PV→PV→R.U T):R.U T:=R.v1 fun a=>R.v4 (k a)
@[simp ↓] abbrev R.v6{T:Type}[R T](k:PV→PV→PV→PV→PV→PV→R.U T):R.U T:=R.v1 fun a=>R.v5 (k a)
@[simp ↓] abbrev R.v7{T:Type}[R T](k:PV→PV→PV→PV→PV→PV→PV→R.U T):R.U T:=R.v1 fun a=>R.v6 (k a)
@[simp ↓] abbrev R.v8{T:Type}[R T](k:PV→PV→PV→PV→PV→PV→PV→PV→R.U T):R.U T:=R.v1 fun a=>R.v7 (k a)
@[simp ↓] abbrev R.v9{T:Type}[R T](k:PV→PV→PV→PV→PV→PV→PV→PV→PV→R.U T):R.U T:=R.v1 fun a=>R.v8 (k a)
@[simp ↓] abbrev R.v10{T:Type}[R T](k:PV→PV→PV→PV→PV→PV→PV→PV→PV→PV→R.U T):R.U T:=R.v1 fun a=>R.v9 (k a)
@[simp ↓] abbrev R.v11{T:Type}[R T](k:PV→PV→PV→PV→PV→PV→PV→PV→PV→PV→PV→R.U T):R.U T:=R.v1 fun a=>R.v10 (k a)
@[simp ↓] abbrev R.v12{T:Type}[R T](k:PV→PV→PV→PV→PV→PV→PV→PV→PV→PV→PV→PV→R.U T):R.U T:=R.v1 fun a=>R.v11 (k a)
@[simp ↓] abbrev R.v13{T:Type}[R T](k:PV→PV→PV→PV→PV→PV→PV→PV→PV→PV→PV→PV→PV→R.U T):R.U T:=R.v1 fun a=>R.v12 (k a)
@[simp ↓] abbrev R.w2{T:Type}[R T](k:PV→PV→T):R.U T:=R.v1 fun a=>R.w1 (k a)
@[simp ↓] abbrev R.w3{T:Type}[R T](k:PV→PV→PV→T):R.U T:=R.v1 fun a=>R.w2 (k a)
@[simp ↓] abbrev R.w4{T:Type}[R T](k:PV→PV→PV→PV→T):R.U T:=R.v1 fun a=>R.w3 (k a)
@[simp ↓] abbrev R.w5{T:Type}[R T](k:PV→PV→PV→PV→PV→T):R.U T:=R.v1 fun a=>R.w4 (k a)
@[simp ↓] abbrev R.w6{T:Type}[R T](k:PV→PV→PV→PV→PV→PV→T):R.U T:=R.v1 fun a=>R.w5 (k a)
@[simp ↓] abbrev R.w7{T:Type}[R T](k:PV→PV→PV→PV→PV→PV→PV→T):R.U T:=R.v1 fun a=>R.w6 (k a)
@[simp ↓] abbrev R.w8{T:Type}[R T](k:PV→PV→PV→PV→PV→PV→PV→PV→T):R.U T:=R.v1 fun a=>R.w7 (k a)
@[simp ↓] abbrev R.w9{T:Type}[R T](k:PV→PV→PV→PV→PV→PV→PV→PV→PV→T):R.U T:=R.v1 fun a=>R.w8 (k a)
@[simp ↓] abbrev R.w10{T:Type}[R T](k:PV→PV→PV→PV→PV→PV→PV→PV→PV→PV→T):R.U T:=R.v1 fun a=>R.w9 (k a)
@[simp ↓] abbrev R.w11{T:Type}[R T](k:PV→PV→PV→PV→PV→PV→PV→PV→PV→PV→PV→T):R.U T:=R.v1 fun a=>R.w10 (k a)
@[simp ↓] abbrev R.w12{T:Type}[R T](k:PV→PV→PV→PV→PV→PV→PV→PV→PV→PV→PV→PV→T):R.U T:=R.v1 fun a=>R.w11 (k a)
@[simp ↓] abbrev R.w13{T:Type}[R T](k:PV→PV→PV→PV→PV→PV→PV→PV→PV→PV→PV→PV→PV→T):R.U T:=R.v1 fun a=>R.w12 (k a)
@[simp ↓] abbrev R.w14{T:Type}[R T](k:PV→PV→PV→PV→PV→PV→PV→PV→PV→PV→PV→PV→PV→PV→T):R.U T:=R.v1 fun a=>R.w13 (k a)
@[simp ↓] abbrev R.w15{T:Type}[R T](k:PV→PV→PV→PV→PV→PV→PV→PV→PV→PV→PV→PV→PV→PV→PV→T):R.U T:=R.v1 fun a=>R.w14 (k a)
@[simp ↓] abbrev R.w16{T:Type}[R T](k:PV→PV→PV→PV→PV→PV→PV→PV→PV→PV→PV→PV→PV→PV→PV→PV→T):R.U T:=R.v1 fun a=>R.w15 (k a)
abbrev Rf:Type:=Nat→Et
abbrev Ru:Type:=Nat→List PV×Et
abbrev Sm:Type:=(Q→Option Rs)→Res
abbrev Su:Type:=(Q→Option Rs)→List PV→Res
instance:R Rf where
 U:=Ru
 TW:=fun b t u v x y n=>.alt (.say (.bin b t (.pv u) (.pv v) (.pv bt)) (x n)) (.say (.bin b t (.pv u) (.pv v) (.pv bf)) (y n))
 E3:=fun u v x y n=>.alt (.say (.bin .eql 3 (.pv u) (.pv v) (.pv bt)) (x n)) (.say (.bin .eql 3 (.pv u) (.pv v) (.pv bf)) (y n))
 L3:=fun u v x y n=>.alt (.say (.bin .lss 3 (.pv u) (.pv v) (.pv bt)) (x n)) (.say (.bin .lss 3 (.pv u) (.pv v) (.pv bf)) (y n))
 N3:=fun u v x y n=>.alt (.say (.bin .neq 3 (.pv u) (.pv v) (.pv bt)) (x n)) (.say (.bin .neq 3 (.pv u) (.pv v) (.pv bf)) (y n))
 G3:=fun u v x y n=>.alt (.say (.bin .gtr 3 (.pv u) (.pv v) (.pv bt)) (x n)) (.say (.bin .gtr 3 (.pv u) (.pv v) (.pv bf)) (y n))
 H3:=fun u v x y n=>.alt (.say (.bin .geq 3 (.pv u) (.pv v) (.pv bt)) (x n)) (.say (.bin .geq 3 (.pv u) (.pv v) (.pv bf)) (y n))
 N9:=fun u v x y n=>.alt (.say (.bin .neq 9 (.pv u) (.pv v) (.pv bt)) (x n)) (.say (.bin .neq 9 (.pv u) (.pv v) (.pv bf)) (y n))
 E9:=fun u v x y n=>.alt (.say (.bin .eql 9 (.pv u) (.pv v) (.pv bt)) (x n)) (.say (.bin .eql 9 (.pv u) (.pv v) (.pv bf)) (y n))
 A3:=fun u v k n=>.say (.bin .add 3 (.pv u) (.pv v) (.pv (.sym n))) (k (.sym n) (n+1))
 S3:=fun u v k n=>.say (.bin .sub 3 (.pv u) (.pv v) (.pv (.sym n))) (k (.sym n) (n+1))
 L:=fun t u k n=>.say (.len t (.pv u) (.pv (.sym n))) (k (.sym n) (n+1))
 S:=fun t u a b k n=>.say (.slc t (.pv u) a b (.pv (.sym n))) (k (.sym n) (n+1))
 P:=fun t u x k n=>.say (.app t (.pv u) (.pv x) n) (k (.sym n) (n+1))
 SE:=fun p i o c k n=>.say (.set p i o c n) (k (.sym n) (n+1))
 MK:=fun t u k n=>.say (.mk t (.pv u) n) (k (.sym n) (n+1))
 AQ:=fun t u x k n=>.say (.apq t (.pv u) (.pv x) n) (k (.sym n) (n+1))
 X:=fun t u i k n=>.say (.idx t (.pv u) (.pv i) (.cptr (k n).1)) (k n).2
 J:=fun x y n=>.alt (x n) (y n)
 C:=fun q p s k n=>.call q p s (k n).1 (k n).2
 C0:=fun q p k n=>.call q p 0 (k n).1 (k n).2
 D:=fun q p s t k l n=>.alt (.call q p s (k n).1 (k n).2) (.call q p t (l n).1 (l n).2)
 Q0:=fun q p x y n=>.alt (.call q p 0 [bt] (x n)) (.call q p 0 [bf] (y n))
 O:=fun s p n=>.out s p
 O0:=fun p n=>.out 0 p
 Y:=fun q p n=>.goto q p
 z:=fun x n=>([],x n)
 ms:=fun p k n=>(p++(k n).1,(k n).2)
 mz:=fun p x n=>(p,x n)
 v1:=fun k n=>([.sym n]++(k (.sym n) (n+1)).1,(k (.sym n) (n+1)).2)
 w1:=fun k n=>([.sym n],k (.sym n) (n+1))
noncomputable instance:R Sm where
 U:=Su
 TW:=fun b t u v x y O=>bA b t u v (x O) (y O)
 E3:=fun u v x y O=>bA .eql 3 u v (x O) (y O)
 L3:=fun u v x y O=>bA .lss 3 u v (x O) (y O)
 N3:=fun u v x y O=>bA .neq 3 u v (x O) (y O)
 G3:=fun u v x y O=>bA .gtr 3 u v (x O) (y O)
 H3:=fun u v x y O=>bA .geq 3 u v (x O) (y O)
 N9:=fun u v x y O=>bA .neq 9 u v (x O) (y O)
 E9:=fun u v x y O=>bA .eql 9 u v (x O) (y O)
 A3:=fun u v k O=>bV .add 3 u v fun y=>k y O
 S3:=fun u v k O=>bV .sub 3 u v fun y=>k y O
 L:=fun t u k O=>lV t u fun y=>k y O
 S:=fun t u a b k O=>slcK PG .fail t (.pv u) a b fun w=>pvK .fail w fun y=>k y O
 P:=fun t u x k O=>appK PG .fail t (.pv u) (.pv x) fun y=>k y O
 SE:=fun p i o c k O=>setK .fail p i o c fun y=>k y O
 MK:=fun t u k O=>mkK PG .fail t (.pv u) fun y=>k y O
 AQ:=fun t u x k O=>appK PG .fail t (.pv u) (.pv x) fun y=>k y O
 X:=fun t u i k O=>xV t u i fun s=>k O s
 J:=fun x y O=>Res.alt (x O) (y O)
 C:=fun q p s k O=>callK (O ⟨q,p⟩) s fun s=>k O s
 C0:=fun q p k O=>callK (O ⟨q,p⟩) 0 fun s=>k O s
 D:=fun q p s t k l O=>cA (O ⟨q,p⟩) s t (fun s=>k O s) fun s=>l O s
 Q0:=fun q p x y O=>cA (O ⟨q,p⟩) 0 0 (fun s=>cI s bt fun s=>cN s (x O)) fun s=>cI s bf fun s=>cN s (y O)
 O:=fun s p O=>.ok (s,p)
 O0:=fun p O=>.ok (0,p)
 Y:=fun q p O=>passK (O ⟨q,p⟩)
 z:=fun x O s=>cN s (x O)
 ms:=fun p k O s=>cL p s (k O)
 mz:=fun p x O s=>cL p s fun s=>cN s (x O)
 v1:=fun k O s=>cC s fun av s=>k av O s
 w1:=fun k O s=>cC s fun av s=>cN s (k av O)
@[simp ↓] theorem m_TW{b:BinOp}{t:TypeId}{u v:PV}{x y:Sm}{O}:R.TW (T:=Sm) b t u v x y O=bA b t u v (x O) (y O):=rfl
@[simp ↓] theorem m_E3{u v:PV}{x y:Sm}{O}:R.E3 (T:=Sm) u v x y O=bA .eql 3 u v (x O) (y O):=rfl
@[simp ↓] theorem m_L3{u v:PV}{x y:Sm}{O}:R.L3 (T:=Sm) u v x y O=bA .lss 3 u v (x O) (y O):=rfl
@[simp ↓] theorem m_N3{u v:PV}{x y:Sm}{O}:R.N3 (T:=Sm) u v x y O=bA .neq 3 u v (x O) (y O):=rfl
@[simp ↓] theorem m_G3{u v:PV}{x y:Sm}{O}:R.G3 (T:=Sm) u v x y O=bA .gtr 3 u v (x O) (y O):=rfl
@[simp ↓] theorem m_H3{u v:PV}{x y:Sm}{O}:R.H3 (T:=Sm) u v x y O=bA .geq 3 u v (x O) (y O):=rfl
@[simp ↓] theorem m_N9{u v:PV}{x y:Sm}{O}:R.N9 (T:=Sm) u v x y O=bA .neq 9 u v (x O) (y O):=rfl
@[simp ↓] theorem m_E9{u v:PV}{x y:Sm}{O}:R.E9 (T:=Sm) u v x y O=bA .eql 9 u v (x O) (y O):=rfl
@[simp ↓] theorem m_A3{u v:PV}{k:PV→Sm}{O}:R.A3 (T:=Sm) u v k O=bV .add 3 u v fun y=>k y O:=rfl
@[simp ↓] theorem m_S3{u v:PV}{k:PV→Sm}{O}:R.S3 (T:=Sm) u v k O=bV .sub 3 u v fun y=>k y O:=rfl
@[simp ↓] theorem m_L{t:TypeId}{u:PV}{k:PV→Sm}{O}:R.L (T:=Sm) t u k O=lV t u fun y=>k y O:=rfl
@[simp ↓] theorem m_S{t:TypeId}{u:PV}{a b:Option AV}{k:PV→Sm}{O}:R.S (T:=Sm) t u a b k O=slcK PG .fail t (.pv u) a b fun w=>pvK .fail w fun y=>k y O:=rfl
@[simp ↓] theorem m_P{t:TypeId}{u x:PV}{k:PV→Sm}{O}:R.P (T:=Sm) t u x k O=appK PG .fail t (.pv u) (.pv x) fun y=>k y O:=rfl
@[simp ↓] theorem m_SE{p i:PV}{o:Nat}{c:List PV}{k:PV→Sm}{O}:R.SE (T:=Sm) p i o c k O=setK .fail p i o c fun y=>k y O:=rfl
@[simp ↓] theorem m_MK{t:TypeId}{u:PV}{k:PV→Sm}{O}:R.MK (T:=Sm) t u k O=mkK PG .fail t (.pv u) fun y=>k y O:=rfl
@[simp ↓] theorem m_AQ{t:TypeId}{u x:PV}{k:PV→Sm}{O}:R.AQ (T:=Sm) t u x k O=appK PG .fail t (.pv u) (.pv x) fun y=>k y O:=rfl
@[simp ↓] theorem m_X{t:TypeId}{u i:PV}{k:Su}{O}:R.X (T:=Sm) t u i k O=xV t u i fun s=>k O s:=rfl
@[simp ↓] theorem m_J{x y:Sm}{O}:R.J (T:=Sm) x y O=Res.alt (x O) (y O):=rfl
@[simp ↓] theorem m_C{q:Nat}{p:List PV}{s:Nat}{k:Su}{O}:R.C (T:=Sm) q p s k O=callK (O ⟨q,p⟩) s fun s=>k O s:=rfl
@[simp ↓] theorem m_C0{q:Nat}{p:List PV}{k:Su}{O}:R.C0 (T:=Sm) q p k O=callK (O ⟨q,p⟩) 0 fun s=>k O s:=rfl
@[simp ↓] theorem m_D{q:Nat}{p:List PV}{s t:Nat}{k l:Su}{O}:R.D (T:=Sm) q p s t k l O=cA (O ⟨q,p⟩) s t (fun s=>k O s) fun s=>l O s:=rfl
@[simp ↓] theorem m_Q0{q:Nat}{p:List PV}{x y:Sm}{O}:R.Q0 (T:=Sm) q p x y O=cA (O ⟨q,p⟩) 0 0 (fun s=>cI s bt fun s=>cN s (x O)) fun s=>cI s bf fun s=>cN s (y O):=rfl
@[simp ↓] theorem m_O{s:Nat}{p:List PV}{O}:R.O (T:=Sm) s p O=.ok (s,p):=rfl
@[simp ↓] theorem m_O0{p:List PV}{O}:R.O0 (T:=Sm) p O=.ok (0,p):=rfl
@[simp ↓] theorem m_Y{q:Nat}{p:List PV}{O}:R.Y (T:=Sm) q p O=passK (O ⟨q,p⟩):=rfl
@[simp ↓] theorem m_z{x:Sm}{O}{s:List PV}:R.z (T:=Sm) x O s=cN s (x O):=rfl
@[simp ↓] theorem m_ms{p:List PV}{k:Su}{O}{s:List PV}:R.ms (T:=Sm) p k O s=cL p s (k O):=rfl
@[simp ↓] theorem m_mz{p:List PV}{x:Sm}{O}{s:List PV}:R.mz (T:=Sm) p x O s=cL p s fun s=>cN s (x O):=rfl
@[simp ↓] theorem m_v1{k:PV→Su}{O}{s:List PV}:R.v1 (T:=Sm) k O s=cC s fun av s=>k av O s:=rfl
@[simp ↓] theorem m_w1{k:PV→Sm}{O}{s:List PV}:R.w1 (T:=Sm) k O s=cC s fun av s=>cN s (k av O):=rfl
section
open R
variable{T:Type}[R T]
def g27(a:PV):T:=L 23 a fun b=>J (J (C 1 [i0,b,a,a] 1 (mz [nS,nS] (D 9 [(iv (-1))] 0 1 (mz [nS] (O0 [nS,i0,i0])) (w1 fun c=>O0 [c,i0,i0])))) (D 1 [i0,b,a,a] 2 3 (v1 fun c=>mz [nS] (L 89 c fun d=>S3 d i1 fun e=>D 11 [e,c] 1 3 (mz [c,nS] (O0 [nS,i0,i0])) (ms [c] (w1 fun f=>O0 [f,i0,i0])))) (w2 fun c d=>L 89 c fun e=>S3 e i1 fun f=>D 12 [f,d,c] 0 1 (mz [d,c] (O0 [d,i0,i0])) (ms [c] (w1 fun g=>O0 [g,i0,i0]))))) (C0 1 [i0,b,a,a] (w3 fun c d e=>O0 [c,d,e]))
def g27b0a(a b c d:PV):T:=L3 a b (X 23 c a (w1 fun e=>C0 17 [e] (w2 fun f g=>C0 4 [d,f,g,a,a,b,c] (mz [nS,a,a,b,c,d,nS] (AQ 89 nS (.rows [[a]]) fun h=>A3 a i1 fun i=>Y 2 [i,b,c,d,h]))))) (O 1 [nS,nS])
def g27b0b(a b c d e:PV):T:=L3 a b (X 23 c a (w1 fun f=>C0 17 [f] (w2 fun g h=>J (D 5 [d,g,h,a,a,b,c,e] 0 2 (mz [e,a,a,b,c,d,nS] (AQ 89 e (.rows [[a]]) fun i=>A3 a i1 fun j=>Y 2 [j,b,c,d,i])) (v2 fun i j=>mz [a,a,b,c,d] (AQ 89 i (.rows [[a]]) fun k=>A3 a i1 fun l=>Y 3 [l,b,c,d,k,j]))) (D 5 [d,g,h,a,a,b,c,e] 1 3 (ms [e] (w3 fun i j k=>O0 [i,j,k])) (w3 fun i j k=>O0 [i,j,k]))))) (O 2 [e,nS])
def g27b0c(a b c d e f:PV):T:=L3 a b (X 23 c a (w1 fun g=>C0 17 [g] (w2 fun h i=>J (D 6 [d,h,i,a,a,b,c,e,f] 0 2 (mz [e,f,a,a,b,c,d] (AQ 89 e (.rows [[a]]) fun j=>A3 a i1 fun k=>Y 3 [k,b,c,d,j,f])) (v2 fun j k=>mz [a,a,b,c,d] (AQ 89 j (.rows [[a]]) fun l=>A3 a i1 fun m=>Y 3 [m,b,c,d,l,k]))) (D 6 [d,h,i,a,a,b,c,e,f] 1 3 (ms [e,f] (w3 fun j k l=>O0 [j,k,l])) (w3 fun j k l=>O0 [j,k,l]))))) (O 3 [e,f])
def g27b2a(a b c d e f g:PV):T:=O0 [nS,d,e,f,g,a,nS]
def g27b2b(a b c d e f g h:PV):T:=L 89 h fun i=>G3 i i0 (S3 i i1 fun j=>X 89 h j (w1 fun k=>X 23 a k (w1 fun l=>C0 17 [l] (w2 fun m n=>L3 m b (O0 [h,d,e,f,g,a,nS]) (E3 m b (E3 c i2 (O0 [h,d,e,f,g,a,nS]) (E3 c i0 (O 1 [h,nS,d,(iv 112)]) (AQ 89 nS (.rows [[k]]) fun o=>S 89 h (some (.pv i0)) (some (.pv j)) fun p=>Y 7 [a,b,c,d,e,f,g,p,o]))) (AQ 89 nS (.rows [[k]]) fun o=>S 89 h (some (.pv i0)) (some (.pv j)) fun p=>Y 7 [a,b,c,d,e,f,g,p,o])))))) (O0 [h,d,e,f,g,a,nS])
def g27b2c(a b c d e f g h i:PV):T:=L 89 h fun j=>G3 j i0 (S3 j i1 fun k=>X 89 h k (w1 fun l=>X 23 a l (w1 fun m=>C0 17 [m] (w2 fun n o=>L3 n b (O0 [h,i,d,e,f,g,a]) (E3 n b (E3 c i2 (O0 [h,i,d,e,f,g,a]) (E3 c i0 (O 1 [h,i,nS,d,(iv 112)]) (AQ 89 i (.rows [[l]]) fun p=>S 89 h (some (.pv i0)) (some (.pv k)) fun q=>Y 8 [a,b,c,d,e,f,g,q,p]))) (AQ 89 i (.rows [[l]]) fun p=>S 89 h (some (.pv i0)) (some (.pv k)) fun q=>Y 8 [a,b,c,d,e,f,g,q,p])))))) (O0 [h,i,d,e,f,g,a])
def g27b2d(a b c d e f g h i:PV):T:=L 89 h fun j=>G3 j i0 (S3 j i1 fun k=>X 89 h k (w1 fun l=>X 23 a l (w1 fun m=>C0 17 [m] (w2 fun n o=>L3 n b (O 2 [h,i,d,e,f,g,a]) (E3 n b (E3 c i2 (O 2 [h,i,d,e,f,g,a]) (E3 c i0 (O 3 [nS,d,(iv 112)]) (AQ 89 i (.rows [[l]]) fun p=>S 89 h (some (.pv i0)) (some (.pv k)) fun q=>Y 7 [a,b,c,d,e,f,g,q,p]))) (AQ 89 i (.rows [[l]]) fun p=>S 89 h (some (.pv i0)) (some (.pv k)) fun q=>Y 7 [a,b,c,d,e,f,g,q,p])))))) (O 2 [h,i,d,e,f,g,a])
def g27b2e(a b c d e f g h i:PV):T:=L 89 h fun j=>G3 j i0 (S3 j i1 fun k=>X 89 h k (w1 fun l=>X 23 a l (w1 fun m=>C0 17 [m] (w2 fun n o=>L3 n b (O 2 [h,i,d,e,f,g,a]) (E3 n b (E3 c i2 (O 2 [h,i,d,e,f,g,a]) (E3 c i0 (O 3 [nS,d,(iv 112)]) (AQ 89 i (.rows [[l]]) fun p=>S 89 h (some (.pv i0)) (some (.pv k)) fun q=>Y 8 [a,b,c,d,e,f,g,q,p]))) (AQ 89 i (.rows [[l]]) fun p=>S 89 h (some (.pv i0)) (some (.pv k)) fun q=>Y 8 [a,b,c,d,e,f,g,q,p])))))) (O 2 [h,i,d,e,f,g,a])
def g27b5a(a:PV):T:=H3 a i0 (X 89 nS a (w1 fun b=>AQ 89 nS (.rows [[b]]) fun c=>S3 a i1 fun d=>Y 13 [d,c])) (O0 [nS])
def g27b5b(a b:PV):T:=H3 a i0 (X 89 nS a (w1 fun c=>AQ 89 b (.rows [[c]]) fun d=>S3 a i1 fun e=>Y 14 [e,d])) (O0 [b])
def g27b5c(a b:PV):T:=H3 a i0 (X 89 b a (w1 fun c=>AQ 89 nS (.rows [[c]]) fun d=>S3 a i1 fun e=>Y 15 [e,b,d])) (O 1 [b,nS])
def g27b5d(a b c:PV):T:=H3 a i0 (X 89 c a (w1 fun d=>AQ 89 b (.rows [[d]]) fun e=>S3 a i1 fun f=>Y 16 [f,c,e])) (O0 [b,c])
def g27b5e(a b:PV):T:=H3 a i0 (X 89 nS a (w1 fun c=>AQ 89 b (.rows [[c]]) fun d=>S3 a i1 fun e=>Y 13 [e,d])) (O 1 [b])
def g27b5f(a b:PV):T:=H3 a i0 (X 89 nS a (w1 fun c=>AQ 89 b (.rows [[c]]) fun d=>S3 a i1 fun e=>Y 14 [e,d])) (O 2 [b])
def g27b5g(a b c:PV):T:=H3 a i0 (X 89 b a (w1 fun d=>AQ 89 c (.rows [[d]]) fun e=>S3 a i1 fun f=>Y 15 [f,b,e])) (O 3 [b,c])
def g27b5h(a b c:PV):T:=H3 a i0 (X 89 b a (w1 fun d=>AQ 89 c (.rows [[d]]) fun e=>S3 a i1 fun f=>Y 16 [f,b,e])) (O 1 [b,c])
def g49(a:PV):T:=E9 a z15 (O0 [i1,i2]) (E9 a z14 (O0 [i2,i2]) (E9 a z13 (O0 [i3,i2]) (E9 a z12 (O0 [i4,i0]) (E9 a z11 (O0 [i4,i0]) (E9 a z10 (O0 [i4,i0]) (E9 a z9 (O0 [i4,i0]) (E9 a z8 (O0 [i4,i0]) (E9 a z7 (O0 [i4,i0]) (E9 a z6 (O0 [i5,i2]) (E9 a z5 (O0 [i5,i2]) (E9 a z4 (O0 [i6,i1]) (E9 a z3 (O0 [i6,i1]) (E9 a z2 (O0 [i7,i1]) (E9 a z1 (O0 [i7,i1]) (E9 a z0 (O0 [i7,i1]) (O0 [i8,i1]))))))))))))))))
def g29(a b c d e f g h i j k l m n o p q r s t u v w x y z:PV):T:=E9 b z13 (O0 [(iv 10),e0,i0,i0,e0,i0,nS,(.rows [[e,f,g,h,i,j,k,l,m,n,o],[p,q,r,s,t,u,v,w,x,y,z]]),nS,nS,d]) (E9 b z14 (O0 [(iv 11),e0,i0,i0,e0,i0,nS,(.rows [[e,f,g,h,i,j,k,l,m,n,o],[p,q,r,s,t,u,v,w,x,y,z]]),nS,nS,d]) (O0 [i5,e0,i0,i0,e0,i0,nS,(.rows [[i5,e0,i0,i0,e0,i0,nS,(.rows [[i3,b,i0,i0,e0,i0,nS,nS,nS,nS,d],[e,f,g,h,i,j,k,l,m,n,o]]),nS,nS,d],[p,q,r,s,t,u,v,w,x,y,z]]),nS,nS,d]))
def g7(a:PV):T:=C0 21 [a] (w6 fun b c d e f g=>O0 [b,c,d,e,f,g])
def g6(a:PV):T:=C0 22 [a] (w13 fun b c d e f g h i j k l m n=>O0 [b,c,d,e,f,g,h,i,j,k,l,m,n])
def g12a(a:PV):T:=C0 149 [a] (w3 fun b c d=>TW .neq 33 c i0 (O0 [nS,nS,nS,nS,c,d]) (D 150 [b,i0,i0] 0 1 (ms [b] (w6 fun e f g h i j=>D 40 [i0,b,e,f] 1 0 (ms [b] (v1 fun k=>ms [f] (w4 fun l m n o=>O0 [g,h,i,j,i0,i0]))) (ms [b] (v1 fun k=>ms [f] (w2 fun l m=>O0 [nS,nS,nS,nS,l,m]))))) (ms [b] (w4 fun e f g h=>O0 [nS,nS,nS,nS,g,h]))))
def g10a(a:PV):T:=C0 149 [a] (w3 fun b c d=>TW .neq 33 c i0 (O0 [i0,e0,i0,i0,e0,i0,nS,nS,nS,nS,i0,c,d]) (D 151 [b,i0,i0] 0 1 (ms [b] (w13 fun e f g h i j k l m n o p q=>D 40 [i0,b,e,f] 1 0 (ms [b] (v1 fun r=>ms [f] (w4 fun s t u v=>O0 [g,h,i,j,k,l,m,n,o,p,q,i0,i0]))) (ms [b] (v1 fun r=>ms [f] (w2 fun s t=>O0 [i0,e0,i0,i0,e0,i0,nS,nS,nS,nS,i0,s,t]))))) (ms [b] (w4 fun e f g h=>O0 [i0,e0,i0,i0,e0,i0,nS,nS,nS,nS,i0,g,h]))))
def g13a(a b c:PV):T:=J (J (J (J (D 24 [a,b,c] 5 15 (ms [a] (v2 fun d e=>mz [nS,nS,nS,nS,nS,nS,nS,nS] (O0 [a,d,e,nS,nS,nS,nS]))) (ms [a] (v2 fun d e=>ms [nS,nS,nS] (v1 fun f=>mz [nS,nS,nS,nS] (O 1 [a,d,e,nS,nS,nS,f]))))) (D 24 [a,b,c] 14 25 (ms [a] (v2 fun d e=>ms [nS,nS] (v1 fun f=>mz [nS,nS,nS,nS,nS] (O 2 [a,d,e,nS,nS,f,nS])))) (ms [a] (v2 fun d e=>ms [nS,nS] (v2 fun f g=>mz [nS,nS,nS,nS] (O 3 [a,d,e,nS,nS,f,g])))))) (J (D 24 [a,b,c] 12 24 (ms [a] (v2 fun d e=>ms [nS] (v1 fun f=>mz [nS,nS,nS,nS,nS,nS] (O 4 [a,d,e,nS,f,nS,nS])))) (ms [a] (v2 fun d e=>ms [nS] (v1 fun f=>ms [nS] (v1 fun g=>mz [nS,nS,nS,nS] (O 5 [a,d,e,nS,f,nS,g])))))) (D 24 [a,b,c] 23 30 (ms [a] (v2 fun d e=>ms [nS] (v2 fun f g=>mz [nS,nS,nS,nS,nS] (O 6 [a,d,e,nS,f,g,nS])))) (ms [a] (v2 fun d e=>ms [nS] (v3 fun f g h=>mz [nS,nS,nS,nS] (O 7 [a,d,e,nS,f,g,h]))))))) (J (J (D 24 [a,b,c] 9 21 (ms [a] (v3 fun d e f=>mz [nS,nS,nS,nS,nS,nS,nS] (O 8 [a,d,e,f,nS,nS,nS]))) (ms [a] (v3 fun d e f=>ms [nS,nS] (v1 fun g=>mz [nS,nS,nS,nS] (O 9 [a,d,e,f,nS,nS,g]))))) (D 24 [a,b,c] 20 29 (ms [a] (v3 fun d e f=>ms [nS] (v1 fun g=>mz [nS,nS,nS,nS,nS] (O 10 [a,d,e,f,nS,g,nS])))) (ms [a] (v3 fun d e f=>ms [nS] (v2 fun g h=>mz [nS,nS,nS,nS] (O 11 [a,d,e,f,nS,g,h])))))) (J (D 24 [a,b,c] 18 28 (ms [a] (v4 fun d e f g=>mz [nS,nS,nS,nS,nS,nS] (O 12 [a,d,e,f,g,nS,nS]))) (ms [a] (v4 fun d e f g=>ms [nS] (v1 fun h=>mz [nS,nS,nS,nS] (O 13 [a,d,e,f,g,nS,h]))))) (D 24 [a,b,c] 27 31 (ms [a] (v5 fun d e f g h=>mz [nS,nS,nS,nS,nS] (O 14 [a,d,e,f,g,h,nS]))) (ms [a] (v6 fun d e f g h i=>mz [nS,nS,nS,nS] (O 15 [a,d,e,f,g,h,i]))))))) (J (J (J (D 24 [a,b,c] 1 4 (ms [a] (v2 fun d e=>ms [nS,nS,nS,nS,nS,nS,nS,nS] (w2 fun f g=>O 16 [a,d,e,f,g]))) (ms [a] (v2 fun d e=>ms [nS,nS,nS] (v1 fun f=>ms [nS,nS,nS,nS] (w2 fun g h=>O 16 [a,d,e,g,h]))))) (D 24 [a,b,c] 3 13 (ms [a] (v2 fun d e=>ms [nS,nS] (v1 fun f=>ms [nS,nS,nS,nS,nS] (w2 fun g h=>O 16 [a,d,e,g,h])))) (ms [a] (v2 fun d e=>ms [nS,nS] (v2 fun f g=>ms [nS,nS,nS,nS] (w2 fun h i=>O 16 [a,d,e,h,i])))))) (J (D 24 [a,b,c] 2 11 (ms [a] (v2 fun d e=>ms [nS] (v1 fun f=>ms [nS,nS,nS,nS,nS,nS] (w2 fun g h=>O 16 [a,d,e,g,h])))) (ms [a] (v2 fun d e=>ms [nS] (v1 fun f=>ms [nS] (v1 fun g=>ms [nS,nS,nS,nS] (w2 fun h i=>O 16 [a,d,e,h,i])))))) (D 24 [a,b,c] 10 22 (ms [a] (v2 fun d e=>ms [nS] (v2 fun f g=>ms [nS,nS,nS,nS,nS] (w2 fun h i=>O 16 [a,d,e,h,i])))) (ms [a] (v2 fun d e=>ms [nS] (v3 fun f g h=>ms [nS,nS,nS,nS] (w2 fun i j=>O 16 [a,d,e,i,j]))))))) (J (J (D 24 [a,b,c] 0 8 (ms [a] (v3 fun d e f=>ms [nS,nS,nS,nS,nS,nS,nS] (w2 fun g h=>O 16 [a,d,e,g,h]))) (ms [a] (v3 fun d e f=>ms [nS,nS] (v1 fun g=>ms [nS,nS,nS,nS] (w2 fun h i=>O 16 [a,d,e,h,i]))))) (D 24 [a,b,c] 7 19 (ms [a] (v3 fun d e f=>ms [nS] (v1 fun g=>ms [nS,nS,nS,nS,nS] (w2 fun h i=>O 16 [a,d,e,h,i])))) (ms [a] (v3 fun d e f=>ms [nS] (v2 fun g h=>ms [nS,nS,nS,nS] (w2 fun i j=>O 16 [a,d,e,i,j])))))) (J (D 24 [a,b,c] 6 17 (ms [a] (v4 fun d e f g=>ms [nS,nS,nS,nS,nS,nS] (w2 fun h i=>O 16 [a,d,e,h,i]))) (ms [a] (v4 fun d e f g=>ms [nS] (v1 fun h=>ms [nS,nS,nS,nS] (w2 fun i j=>O 16 [a,d,e,i,j]))))) (D 24 [a,b,c] 16 26 (ms [a] (v5 fun d e f g h=>ms [nS,nS,nS,nS,nS] (w2 fun i j=>O 16 [a,d,e,i,j]))) (ms [a] (v6 fun d e f g h i=>ms [nS,nS,nS,nS] (w2 fun j k=>O 16 [a,d,e,j,k])))))))
def g13ab0a(a b c:PV):T:=C0 50 [a,b,c] (ms [a,b,c] (w4 fun d e f g=>N3 d i0 (D 51 [z16,a,b,c] 0 0 (ms [a] (v1 fun h=>mz [c,bt] (D 152 [a,h,c] 0 1 (ms [a] (w7 fun i j k l m n o=>D 67 [z17,a,i,j] 0 1 (ms [a] (v1 fun p=>ms [j] (w4 fun q r s t=>Y 25 [a,p,j,(.rows [[k,l,m,n,o]])]))) (ms [a] (v1 fun p=>ms [j] (w2 fun q r=>O0 [a,p,j,(.rows [[k,l,m,n,o]]),nS,nS,nS,nS,nS,nS,nS,q,r]))))) (ms [a] (w4 fun i j k l=>O 1 [a,i,j,nS,nS,nS,nS,nS,nS,nS,nS,k,l]))))) (ms [a] (v1 fun h=>mz [c,bf] (D 51 [z18,a,h,c] 0 0 (ms [a] (v1 fun i=>mz [c,bt] (D 153 [a,i,c] 0 1 (ms [a] (w8 fun j k l m n o p q=>D 67 [z17,a,j,k] 0 1 (ms [a] (v1 fun r=>ms [k] (w4 fun s t u v=>Y 26 [a,r,k,(.rows [[l,m,n,o,p,q]])]))) (ms [a] (v1 fun r=>ms [k] (w2 fun s t=>O 2 [a,r,k,nS,(.rows [[l,m,n,o,p,q]]),nS,nS,nS,nS,nS,nS,s,t]))))) (ms [a] (w4 fun j k l m=>O 1 [a,j,k,nS,nS,nS,nS,nS,nS,nS,nS,l,m]))))) (ms [a] (v1 fun i=>mz [c,bf] (D 51 [z19,a,i,c] 0 0 (ms [a] (v1 fun j=>mz [c,bt] (D 154 [a,j,c] 0 1 (ms [a] (w10 fun k l m n o p q r s t=>D 67 [z17,a,k,l] 0 1 (ms [a] (v1 fun u=>ms [l] (w4 fun v w x y=>Y 27 [a,u,l,(.rows [[m,n,o,p,q,r,s,t]])]))) (ms [a] (v1 fun u=>ms [l] (w2 fun v w=>O 3 [a,u,l,nS,nS,(.rows [[m,n,o,p,q,r,s,t]]),nS,nS,nS,nS,nS,v,w]))))) (ms [a] (w4 fun k l m n=>O 1 [a,k,l,nS,nS,nS,nS,nS,nS,nS,nS,m,n]))))) (ms [a] (v1 fun j=>mz [c,bf] (D 67 [z20,a,j,c] 0 1 (ms [a] (v1 fun k=>ms [c] (w4 fun l m n o=>D 155 [a,k,c] 0 1 (ms [a] (w15 fun p q r s t u v w x y z a0 b0 c0 d0=>D 67 [z17,a,p,q] 0 1 (ms [a] (v1 fun f0=>ms [q] (w4 fun g0 h0 j0 k0=>Y 28 [a,f0,q,(.rows [[r,s,t,u,v,w,x,y,z,a0,b0,c0,d0]])]))) (ms [a] (v1 fun f0=>ms [q] (w2 fun g0 h0=>O 4 [a,f0,q,nS,nS,nS,(.rows [[r,s,t,u,v,w,x,y,z,a0,b0,c0,d0]]),nS,nS,nS,nS,g0,h0]))))) (ms [a] (w4 fun p q r s=>O 1 [a,p,q,nS,nS,nS,nS,nS,nS,nS,nS,r,s]))))) (ms [a] (v1 fun k=>ms [c] (w2 fun l m=>O 1 [a,k,c,nS,nS,nS,nS,nS,nS,nS,nS,l,m]))))))))))))) (O 5 [a,b,c,nS,nS,nS,nS,nS,nS,nS,nS])))
def g13ab0b(a b c d:PV):T:=C0 50 [a,b,c] (ms [a,b,c] (w4 fun e f g h=>N3 e i0 (D 51 [z16,a,b,c] 0 0 (ms [a] (v1 fun i=>mz [c,bt] (D 152 [a,i,c] 0 1 (ms [a] (w7 fun j k l m n o p=>P 39 d (.rows [[l,m,n,o,p]]) fun q=>D 67 [z17,a,j,k] 0 1 (ms [a] (v1 fun r=>ms [k] (w4 fun s t u v=>Y 25 [a,r,k,q]))) (ms [a] (v1 fun r=>ms [k] (w2 fun s t=>O0 [a,r,k,q,nS,nS,nS,nS,nS,nS,nS,s,t]))))) (ms [a] (w4 fun j k l m=>O0 [a,j,k,d,nS,nS,nS,nS,nS,nS,nS,l,m]))))) (ms [a] (v1 fun i=>mz [c,bf] (D 51 [z18,a,i,c] 0 0 (ms [a] (v1 fun j=>mz [c,bt] (D 153 [a,j,c] 0 1 (ms [a] (w8 fun k l m n o p q r=>D 67 [z17,a,k,l] 0 1 (ms [a] (v1 fun s=>ms [l] (w4 fun t u v w=>Y 29 [a,s,l,d,(.rows [[m,n,o,p,q,r]])]))) (ms [a] (v1 fun s=>ms [l] (w2 fun t u=>O 6 [a,s,l,d,(.rows [[m,n,o,p,q,r]]),nS,nS,nS,nS,nS,nS,t,u]))))) (ms [a] (w4 fun k l m n=>O0 [a,k,l,d,nS,nS,nS,nS,nS,nS,nS,m,n]))))) (ms [a] (v1 fun j=>mz [c,bf] (D 51 [z19,a,j,c] 0 0 (ms [a] (v1 fun k=>mz [c,bt] (D 154 [a,k,c] 0 1 (ms [a] (w10 fun l m n o p q r s t u=>D 67 [z17,a,l,m] 0 1 (ms [a] (v1 fun v=>ms [m] (w4 fun w x y z=>Y 30 [a,v,m,d,(.rows [[n,o,p,q,r,s,t,u]])]))) (ms [a] (v1 fun v=>ms [m] (w2 fun w x=>O 7 [a,v,m,d,nS,(.rows [[n,o,p,q,r,s,t,u]]),nS,nS,nS,nS,nS,w,x]))))) (ms [a] (w4 fun l m n o=>O0 [a,l,m,d,nS,nS,nS,nS,nS,nS,nS,n,o]))))) (ms [a] (v1 fun k=>mz [c,bf] (D 67 [z20,a,k,c] 0 1 (ms [a] (v1 fun l=>ms [c] (w4 fun m n o p=>D 155 [a,l,c] 0 1 (ms [a] (w15 fun q r s t u v w x y z a0 b0 c0 d0 f0=>D 67 [z17,a,q,r] 0 1 (ms [a] (v1 fun g0=>ms [r] (w4 fun h0 j0 k0 l0=>Y 31 [a,g0,r,d,(.rows [[s,t,u,v,w,x,y,z,a0,b0,c0,d0,f0]])]))) (ms [a] (v1 fun g0=>ms [r] (w2 fun h0 j0=>O 8 [a,g0,r,d,nS,nS,(.rows [[s,t,u,v,w,x,y,z,a0,b0,c0,d0,f0]]),nS,nS,nS,nS,h0,j0]))))) (ms [a] (w4 fun q r s t=>O0 [a,q,r,d,nS,nS,nS,nS,nS,nS,nS,s,t]))))) (ms [a] (v1 fun l=>ms [c] (w2 fun m n=>O0 [a,l,c,d,nS,nS,nS,nS,nS,nS,nS,m,n]))))))))))))) (O 9 [a,b,c,d,nS,nS,nS,nS,nS,nS,nS])))
def g13ab0c(a b c d:PV):T:=C0 50 [a,b,c] (ms [a,b,c] (w4 fun e f g h=>N3 e i0 (D 51 [z16,a,b,c] 0 0 (ms [a] (v1 fun i=>mz [c,bt] (D 152 [a,i,c] 0 1 (ms [a] (w7 fun j k l m n o p=>D 67 [z17,a,j,k] 0 1 (ms [a] (v1 fun q=>ms [k] (w4 fun r s t u=>Y 29 [a,q,k,(.rows [[l,m,n,o,p]]),d]))) (ms [a] (v1 fun q=>ms [k] (w2 fun r s=>O 6 [a,q,k,(.rows [[l,m,n,o,p]]),d,nS,nS,nS,nS,nS,nS,r,s]))))) (ms [a] (w4 fun j k l m=>O 2 [a,j,k,nS,d,nS,nS,nS,nS,nS,nS,l,m]))))) (ms [a] (v1 fun i=>mz [c,bf] (D 51 [z18,a,i,c] 0 0 (ms [a] (v1 fun j=>mz [c,bt] (D 153 [a,j,c] 0 1 (ms [a] (w8 fun k l m n o p q r=>P 40 d (.rows [[m,n,o,p,q,r]]) fun s=>D 67 [z17,a,k,l] 0 1 (ms [a] (v1 fun t=>ms [l] (w4 fun u v w x=>Y 26 [a,t,l,s]))) (ms [a] (v1 fun t=>ms [l] (w2 fun u v=>O 2 [a,t,l,nS,s,nS,nS,nS,nS,nS,nS,u,v]))))) (ms [a] (w4 fun k l m n=>O 2 [a,k,l,nS,d,nS,nS,nS,nS,nS,nS,m,n]))))) (ms [a] (v1 fun j=>mz [c,bf] (D 51 [z19,a,j,c] 0 0 (ms [a] (v1 fun k=>mz [c,bt] (D 154 [a,k,c] 0 1 (ms [a] (w10 fun l m n o p q r s t u=>D 67 [z17,a,l,m] 0 1 (ms [a] (v1 fun v=>ms [m] (w4 fun w x y z=>Y 32 [a,v,m,d,(.rows [[n,o,p,q,r,s,t,u]])]))) (ms [a] (v1 fun v=>ms [m] (w2 fun w x=>O 10 [a,v,m,nS,d,(.rows [[n,o,p,q,r,s,t,u]]),nS,nS,nS,nS,nS,w,x]))))) (ms [a] (w4 fun l m n o=>O 2 [a,l,m,nS,d,nS,nS,nS,nS,nS,nS,n,o]))))) (ms [a] (v1 fun k=>mz [c,bf] (D 67 [z20,a,k,c] 0 1 (ms [a] (v1 fun l=>ms [c] (w4 fun m n o p=>D 155 [a,l,c] 0 1 (ms [a] (w15 fun q r s t u v w x y z a0 b0 c0 d0 f0=>D 67 [z17,a,q,r] 0 1 (ms [a] (v1 fun g0=>ms [r] (w4 fun h0 j0 k0 l0=>Y 33 [a,g0,r,d,(.rows [[s,t,u,v,w,x,y,z,a0,b0,c0,d0,f0]])]))) (ms [a] (v1 fun g0=>ms [r] (w2 fun h0 j0=>O 11 [a,g0,r,nS,d,nS,(.rows [[s,t,u,v,w,x,y,z,a0,b0,c0,d0,f0]]),nS,nS,nS,nS,h0,j0]))))) (ms [a] (w4 fun q r s t=>O 2 [a,q,r,nS,d,nS,nS,nS,nS,nS,nS,s,t]))))) (ms [a] (v1 fun l=>ms [c] (w2 fun m n=>O 2 [a,l,c,nS,d,nS,nS,nS,nS,nS,nS,m,n]))))))))))))) (O 12 [a,b,c,nS,d,nS,nS,nS,nS,nS,nS])))
def g13ab0d(a b c d:PV):T:=C0 50 [a,b,c] (ms [a,b,c] (w4 fun e f g h=>N3 e i0 (D 51 [z16,a,b,c] 0 0 (ms [a] (v1 fun i=>mz [c,bt] (D 152 [a,i,c] 0 1 (ms [a] (w7 fun j k l m n o p=>D 67 [z17,a,j,k] 0 1 (ms [a] (v1 fun q=>ms [k] (w4 fun r s t u=>Y 30 [a,q,k,(.rows [[l,m,n,o,p]]),d]))) (ms [a] (v1 fun q=>ms [k] (w2 fun r s=>O 7 [a,q,k,(.rows [[l,m,n,o,p]]),nS,d,nS,nS,nS,nS,nS,r,s]))))) (ms [a] (w4 fun j k l m=>O 3 [a,j,k,nS,nS,d,nS,nS,nS,nS,nS,l,m]))))) (ms [a] (v1 fun i=>mz [c,bf] (D 51 [z18,a,i,c] 0 0 (ms [a] (v1 fun j=>mz [c,bt] (D 153 [a,j,c] 0 1 (ms [a] (w8 fun k l m n o p q r=>D 67 [z17,a,k,l] 0 1 (ms [a] (v1 fun s=>ms [l] (w4 fun t u v w=>Y 32 [a,s,l,(.rows [[m,n,o,p,q,r]]),d]))) (ms [a] (v1 fun s=>ms [l] (w2 fun t u=>O 10 [a,s,l,nS,(.rows [[m,n,o,p,q,r]]),d,nS,nS,nS,nS,nS,t,u]))))) (ms [a] (w4 fun k l m n=>O 3 [a,k,l,nS,nS,d,nS,nS,nS,nS,nS,m,n]))))) (ms [a] (v1 fun j=>mz [c,bf] (D 51 [z19,a,j,c] 0 0 (ms [a] (v1 fun k=>mz [c,bt] (D 154 [a,k,c] 0 1 (ms [a] (w10 fun l m n o p q r s t u=>P 41 d (.rows [[n,o,p,q,r,s,t,u]]) fun v=>D 67 [z17,a,l,m] 0 1 (ms [a] (v1 fun w=>ms [m] (w4 fun x y z a0=>Y 27 [a,w,m,v]))) (ms [a] (v1 fun w=>ms [m] (w2 fun x y=>O 3 [a,w,m,nS,nS,v,nS,nS,nS,nS,nS,x,y]))))) (ms [a] (w4 fun l m n o=>O 3 [a,l,m,nS,nS,d,nS,nS,nS,nS,nS,n,o]))))) (ms [a] (v1 fun k=>mz [c,bf] (D 67 [z20,a,k,c] 0 1 (ms [a] (v1 fun l=>ms [c] (w4 fun m n o p=>D 155 [a,l,c] 0 1 (ms [a] (w15 fun q r s t u v w x y z a0 b0 c0 d0 f0=>D 67 [z17,a,q,r] 0 1 (ms [a] (v1 fun g0=>ms [r] (w4 fun h0 j0 k0 l0=>Y 34 [a,g0,r,d,(.rows [[s,t,u,v,w,x,y,z,a0,b0,c0,d0,f0]])]))) (ms [a] (v1 fun g0=>ms [r] (w2 fun h0 j0=>O 13 [a,g0,r,nS,nS,d,(.rows [[s,t,u,v,w,x,y,z,a0,b0,c0,d0,f0]]),nS,nS,nS,nS,h0,j0]))))) (ms [a] (w4 fun q r s t=>O 3 [a,q,r,nS,nS,d,nS,nS,nS,nS,nS,s,t]))))) (ms [a] (v1 fun l=>ms [c] (w2 fun m n=>O 3 [a,l,c,nS,nS,d,nS,nS,nS,nS,nS,m,n]))))))))))))) (O 14 [a,b,c,nS,nS,d,nS,nS,nS,nS,nS])))
def g13ab0e(a b c d:PV):T:=C0 50 [a,b,c] (ms [a,b,c] (w4 fun e f g h=>N3 e i0 (D 51 [z16,a,b,c] 0 0 (ms [a] (v1 fun i=>mz [c,bt] (D 152 [a,i,c] 0 1 (ms [a] (w7 fun j k l m n o p=>D 67 [z17,a,j,k] 0 1 (ms [a] (v1 fun q=>ms [k] (w4 fun r s t u=>Y 31 [a,q,k,(.rows [[l,m,n,o,p]]),d]))) (ms [a] (v1 fun q=>ms [k] (w2 fun r s=>O 8 [a,q,k,(.rows [[l,m,n,o,p]]),nS,nS,d,nS,nS,nS,nS,r,s]))))) (ms [a] (w4 fun j k l m=>O 4 [a,j,k,nS,nS,nS,d,nS,nS,nS,nS,l,m]))))) (ms [a] (v1 fun i=>mz [c,bf] (D 51 [z18,a,i,c] 0 0 (ms [a] (v1 fun j=>mz [c,bt] (D 153 [a,j,c] 0 1 (ms [a] (w8 fun k l m n o p q r=>D 67 [z17,a,k,l] 0 1 (ms [a] (v1 fun s=>ms [l] (w4 fun t u v w=>Y 33 [a,s,l,(.rows [[m,n,o,p,q,r]]),d]))) (ms [a] (v1 fun s=>ms [l] (w2 fun t u=>O 11 [a,s,l,nS,(.rows [[m,n,o,p,q,r]]),nS,d,nS,nS,nS,nS,t,u]))))) (ms [a] (w4 fun k l m n=>O 4 [a,k,l,nS,nS,nS,d,nS,nS,nS,nS,m,n]))))) (ms [a] (v1 fun j=>mz [c,bf] (D 51 [z19,a,j,c] 0 0 (ms [a] (v1 fun k=>mz [c,bt] (D 154 [a,k,c] 0 1 (ms [a] (w10 fun l m n o p q r s t u=>D 67 [z17,a,l,m] 0 1 (ms [a] (v1 fun v=>ms [m] (w4 fun w x y z=>Y 34 [a,v,m,(.rows [[n,o,p,q,r,s,t,u]]),d]))) (ms [a] (v1 fun v=>ms [m] (w2 fun w x=>O 13 [a,v,m,nS,nS,(.rows [[n,o,p,q,r,s,t,u]]),d,nS,nS,nS,nS,w,x]))))) (ms [a] (w4 fun l m n o=>O 4 [a,l,m,nS,nS,nS,d,nS,nS,nS,nS,n,o]))))) (ms [a] (v1 fun k=>mz [c,bf] (D 67 [z20,a,k,c] 0 1 (ms [a] (v1 fun l=>ms [c] (w4 fun m n o p=>D 155 [a,l,c] 0 1 (ms [a] (w15 fun q r s t u v w x y z a0 b0 c0 d0 f0=>P 30 d (.rows [[s,t,u,v,w,x,y,z,a0,b0,c0,d0,f0]]) fun g0=>D 67 [z17,a,q,r] 0 1 (ms [a] (v1 fun h0=>ms [r] (w4 fun j0 k0 l0 m0=>Y 28 [a,h0,r,g0]))) (ms [a] (v1 fun h0=>ms [r] (w2 fun j0 k0=>O 4 [a,h0,r,nS,nS,nS,g0,nS,nS,nS,nS,j0,k0]))))) (ms [a] (w4 fun q r s t=>O 4 [a,q,r,nS,nS,nS,d,nS,nS,nS,nS,s,t]))))) (ms [a] (v1 fun l=>ms [c] (w2 fun m n=>O 4 [a,l,c,nS,nS,nS,d,nS,nS,nS,nS,m,n]))))))))))))) (O 15 [a,b,c,nS,nS,nS,d,nS,nS,nS,nS])))
def g13ab0f(a b c d e:PV):T:=C0 50 [a,b,c] (ms [a,b,c] (w4 fun f g h i=>N3 f i0 (D 51 [z16,a,b,c] 0 0 (ms [a] (v1 fun j=>mz [c,bt] (D 152 [a,j,c] 0 1 (ms [a] (w7 fun k l m n o p q=>P 39 d (.rows [[m,n,o,p,q]]) fun r=>D 67 [z17,a,k,l] 0 1 (ms [a] (v1 fun s=>ms [l] (w4 fun t u v w=>Y 29 [a,s,l,r,e]))) (ms [a] (v1 fun s=>ms [l] (w2 fun t u=>O 6 [a,s,l,r,e,nS,nS,nS,nS,nS,nS,t,u]))))) (ms [a] (w4 fun k l m n=>O 6 [a,k,l,d,e,nS,nS,nS,nS,nS,nS,m,n]))))) (ms [a] (v1 fun j=>mz [c,bf] (D 51 [z18,a,j,c] 0 0 (ms [a] (v1 fun k=>mz [c,bt] (D 153 [a,k,c] 0 1 (ms [a] (w8 fun l m n o p q r s=>P 40 e (.rows [[n,o,p,q,r,s]]) fun t=>D 67 [z17,a,l,m] 0 1 (ms [a] (v1 fun u=>ms [m] (w4 fun v w x y=>Y 29 [a,u,m,d,t]))) (ms [a] (v1 fun u=>ms [m] (w2 fun v w=>O 6 [a,u,m,d,t,nS,nS,nS,nS,nS,nS,v,w]))))) (ms [a] (w4 fun l m n o=>O 6 [a,l,m,d,e,nS,nS,nS,nS,nS,nS,n,o]))))) (ms [a] (v1 fun k=>mz [c,bf] (D 51 [z19,a,k,c] 0 0 (ms [a] (v1 fun l=>mz [c,bt] (D 154 [a,l,c] 0 1 (ms [a] (w10 fun m n o p q r s t u v=>D 67 [z17,a,m,n] 0 1 (ms [a] (v1 fun w=>ms [n] (w4 fun x y z a0=>Y 35 [a,w,n,d,e,(.rows [[o,p,q,r,s,t,u,v]])]))) (ms [a] (v1 fun w=>ms [n] (w2 fun x y=>O 16 [a,w,n,d,e,(.rows [[o,p,q,r,s,t,u,v]]),nS,nS,nS,nS,nS,x,y]))))) (ms [a] (w4 fun m n o p=>O 6 [a,m,n,d,e,nS,nS,nS,nS,nS,nS,o,p]))))) (ms [a] (v1 fun l=>mz [c,bf] (D 67 [z20,a,l,c] 0 1 (ms [a] (v1 fun m=>ms [c] (w4 fun n o p q=>D 155 [a,m,c] 0 1 (ms [a] (w15 fun r s t u v w x y z a0 b0 c0 d0 f0 g0=>D 67 [z17,a,r,s] 0 1 (ms [a] (v1 fun h0=>ms [s] (w4 fun j0 k0 l0 m0=>Y 36 [a,h0,s,d,e,(.rows [[t,u,v,w,x,y,z,a0,b0,c0,d0,f0,g0]])]))) (ms [a] (v1 fun h0=>ms [s] (w2 fun j0 k0=>O 17 [a,h0,s,d,e,nS,(.rows [[t,u,v,w,x,y,z,a0,b0,c0,d0,f0,g0]]),nS,nS,nS,nS,j0,k0]))))) (ms [a] (w4 fun r s t u=>O 6 [a,r,s,d,e,nS,nS,nS,nS,nS,nS,t,u]))))) (ms [a] (v1 fun m=>ms [c] (w2 fun n o=>O 6 [a,m,c,d,e,nS,nS,nS,nS,nS,nS,n,o]))))))))))))) (O 18 [a,b,c,d,e,nS,nS,nS,nS,nS,nS])))
def g13ab0g(a b c d e:PV):T:=C0 50 [a,b,c] (ms [a,b,c] (w4 fun f g h i=>N3 f i0 (D 51 [z16,a,b,c] 0 0 (ms [a] (v1 fun j=>mz [c,bt] (D 152 [a,j,c] 0 1 (ms [a] (w7 fun k l m n o p q=>P 39 d (.rows [[m,n,o,p,q]]) fun r=>D 67 [z17,a,k,l] 0 1 (ms [a] (v1 fun s=>ms [l] (w4 fun t u v w=>Y 30 [a,s,l,r,e]))) (ms [a] (v1 fun s=>ms [l] (w2 fun t u=>O 7 [a,s,l,r,nS,e,nS,nS,nS,nS,nS,t,u]))))) (ms [a] (w4 fun k l m n=>O 7 [a,k,l,d,nS,e,nS,nS,nS,nS,nS,m,n]))))) (ms [a] (v1 fun j=>mz [c,bf] (D 51 [z18,a,j,c] 0 0 (ms [a] (v1 fun k=>mz [c,bt] (D 153 [a,k,c] 0 1 (ms [a] (w8 fun l m n o p q r s=>D 67 [z17,a,l,m] 0 1 (ms [a] (v1 fun t=>ms [m] (w4 fun u v w x=>Y 35 [a,t,m,d,(.rows [[n,o,p,q,r,s]]),e]))) (ms [a] (v1 fun t=>ms [m] (w2 fun u v=>O 16 [a,t,m,d,(.rows [[n,o,p,q,r,s]]),e,nS,nS,nS,nS,nS,u,v]))))) (ms [a] (w4 fun l m n o=>O 7 [a,l,m,d,nS,e,nS,nS,nS,nS,nS,n,o]))))) (ms [a] (v1 fun k=>mz [c,bf] (D 51 [z19,a,k,c] 0 0 (ms [a] (v1 fun l=>mz [c,bt] (D 154 [a,l,c] 0 1 (ms [a] (w10 fun m n o p q r s t u v=>P 41 e (.rows [[o,p,q,r,s,t,u,v]]) fun w=>D 67 [z17,a,m,n] 0 1 (ms [a] (v1 fun x=>ms [n] (w4 fun y z a0 b0=>Y 30 [a,x,n,d,w]))) (ms [a] (v1 fun x=>ms [n] (w2 fun y z=>O 7 [a,x,n,d,nS,w,nS,nS,nS,nS,nS,y,z]))))) (ms [a] (w4 fun m n o p=>O 7 [a,m,n,d,nS,e,nS,nS,nS,nS,nS,o,p]))))) (ms [a] (v1 fun l=>mz [c,bf] (D 67 [z20,a,l,c] 0 1 (ms [a] (v1 fun m=>ms [c] (w4 fun n o p q=>D 155 [a,m,c] 0 1 (ms [a] (w15 fun r s t u v w x y z a0 b0 c0 d0 f0 g0=>D 67 [z17,a,r,s] 0 1 (ms [a] (v1 fun h0=>ms [s] (w4 fun j0 k0 l0 m0=>Y 37 [a,h0,s,d,e,(.rows [[t,u,v,w,x,y,z,a0,b0,c0,d0,f0,g0]])]))) (ms [a] (v1 fun h0=>ms [s] (w2 fun j0 k0=>O 19 [a,h0,s,d,nS,e,(.rows [[t,u,v,w,x,y,z,a0,b0,c0,d0,f0,g0]]),nS,nS,nS,nS,j0,k0]))))) (ms [a] (w4 fun r s t u=>O 7 [a,r,s,d,nS,e,nS,nS,nS,nS,nS,t,u]))))) (ms [a] (v1 fun m=>ms [c] (w2 fun n o=>O 7 [a,m,c,d,nS,e,nS,nS,nS,nS,nS,n,o]))))))))))))) (O 20 [a,b,c,d,nS,e,nS,nS,nS,nS,nS])))
def g13ab0h(a b c d e:PV):T:=C0 50 [a,b,c] (ms [a,b,c] (w4 fun f g h i=>N3 f i0 (D 51 [z16,a,b,c] 0 0 (ms [a] (v1 fun j=>mz [c,bt] (D 152 [a,j,c] 0 1 (ms [a] (w7 fun k l m n o p q=>P 39 d (.rows [[m,n,o,p,q]]) fun r=>D 67 [z17,a,k,l] 0 1 (ms [a] (v1 fun s=>ms [l] (w4 fun t u v w=>Y 31 [a,s,l,r,e]))) (ms [a] (v1 fun s=>ms [l] (w2 fun t u=>O 8 [a,s,l,r,nS,nS,e,nS,nS,nS,nS,t,u]))))) (ms [a] (w4 fun k l m n=>O 8 [a,k,l,d,nS,nS,e,nS,nS,nS,nS,m,n]))))) (ms [a] (v1 fun j=>mz [c,bf] (D 51 [z18,a,j,c] 0 0 (ms [a] (v1 fun k=>mz [c,bt] (D 153 [a,k,c] 0 1 (ms [a] (w8 fun l m n o p q r s=>D 67 [z17,a,l,m] 0 1 (ms [a] (v1 fun t=>ms [m] (w4 fun u v w x=>Y 36 [a,t,m,d,(.rows [[n,o,p,q,r,s]]),e]))) (ms [a] (v1 fun t=>ms [m] (w2 fun u v=>O 17 [a,t,m,d,(.rows [[n,o,p,q,r,s]]),nS,e,nS,nS,nS,nS,u,v]))))) (ms [a] (w4 fun l m n o=>O 8 [a,l,m,d,nS,nS,e,nS,nS,nS,nS,n,o]))))) (ms [a] (v1 fun k=>mz [c,bf] (D 51 [z19,a,k,c] 0 0 (ms [a] (v1 fun l=>mz [c,bt] (D 154 [a,l,c] 0 1 (ms [a] (w10 fun m n o p q r s t u v=>D 67 [z17,a,m,n] 0 1 (ms [a] (v1 fun w=>ms [n] (w4 fun x y z a0=>Y 37 [a,w,n,d,(.rows [[o,p,q,r,s,t,u,v]]),e]))) (ms [a] (v1 fun w=>ms [n] (w2 fun x y=>O 19 [a,w,n,d,nS,(.rows [[o,p,q,r,s,t,u,v]]),e,nS,nS,nS,nS,x,y]))))) (ms [a] (w4 fun m n o p=>O 8 [a,m,n,d,nS,nS,e,nS,nS,nS,nS,o,p]))))) (ms [a] (v1 fun l=>mz [c,bf] (D 67 [z20,a,l,c] 0 1 (ms [a] (v1 fun m=>ms [c] (w4 fun n o p q=>D 155 [a,m,c] 0 1 (ms [a] (w15 fun r s t u v w x y z a0 b0 c0 d0 f0 g0=>P 30 e (.rows [[t,u,v,w,x,y,z,a0,b0,c0,d0,f0,g0]]) fun h0=>D 67 [z17,a,r,s] 0 1 (ms [a] (v1 fun j0=>ms [s] (w4 fun k0 l0 m0 n0=>Y 31 [a,j0,s,d,h0]))) (ms [a] (v1 fun j0=>ms [s] (w2 fun k0 l0=>O 8 [a,j0,s,d,nS,nS,h0,nS,nS,nS,nS,k0,l0]))))) (ms [a] (w4 fun r s t u=>O 8 [a,r,s,d,nS,nS,e,nS,nS,nS,nS,t,u]))))) (ms [a] (v1 fun m=>ms [c] (w2 fun n o=>O 8 [a,m,c,d,nS,nS,e,nS,nS,nS,nS,n,o]))))))))))))) (O 21 [a,b,c,d,nS,nS,e,nS,nS,nS,nS])))
def g13ab0i(a b c d e:PV):T:=C0 50 [a,b,c] (ms [a,b,c] (w4 fun f g h i=>N3 f i0 (D 51 [z16,a,b,c] 0 0 (ms [a] (v1 fun j=>mz [c,bt] (D 152 [a,j,c] 0 1 (ms [a] (w7 fun k l m n o p q=>D 67 [z17,a,k,l] 0 1 (ms [a] (v1 fun r=>ms [l] (w4 fun s t u v=>Y 35 [a,r,l,(.rows [[m,n,o,p,q]]),d,e]))) (ms [a] (v1 fun r=>ms [l] (w2 fun s t=>O 16 [a,r,l,(.rows [[m,n,o,p,q]]),d,e,nS,nS,nS,nS,nS,s,t]))))) (ms [a] (w4 fun k l m n=>O 10 [a,k,l,nS,d,e,nS,nS,nS,nS,nS,m,n]))))) (ms [a] (v1 fun j=>mz [c,bf] (D 51 [z18,a,j,c] 0 0 (ms [a] (v1 fun k=>mz [c,bt] (D 153 [a,k,c] 0 1 (ms [a] (w8 fun l m n o p q r s=>P 40 d (.rows [[n,o,p,q,r,s]]) fun t=>D 67 [z17,a,l,m] 0 1 (ms [a] (v1 fun u=>ms [m] (w4 fun v w x y=>Y 32 [a,u,m,t,e]))) (ms [a] (v1 fun u=>ms [m] (w2 fun v w=>O 10 [a,u,m,nS,t,e,nS,nS,nS,nS,nS,v,w]))))) (ms [a] (w4 fun l m n o=>O 10 [a,l,m,nS,d,e,nS,nS,nS,nS,nS,n,o]))))) (ms [a] (v1 fun k=>mz [c,bf] (D 51 [z19,a,k,c] 0 0 (ms [a] (v1 fun l=>mz [c,bt] (D 154 [a,l,c] 0 1 (ms [a] (w10 fun m n o p q r s t u v=>P 41 e (.rows [[o,p,q,r,s,t,u,v]]) fun w=>D 67 [z17,a,m,n] 0 1 (ms [a] (v1 fun x=>ms [n] (w4 fun y z a0 b0=>Y 32 [a,x,n,d,w]))) (ms [a] (v1 fun x=>ms [n] (w2 fun y z=>O 10 [a,x,n,nS,d,w,nS,nS,nS,nS,nS,y,z]))))) (ms [a] (w4 fun m n o p=>O 10 [a,m,n,nS,d,e,nS,nS,nS,nS,nS,o,p]))))) (ms [a] (v1 fun l=>mz [c,bf] (D 67 [z20,a,l,c] 0 1 (ms [a] (v1 fun m=>ms [c] (w4 fun n o p q=>D 155 [a,m,c] 0 1 (ms [a] (w15 fun r s t u v w x y z a0 b0 c0 d0 f0 g0=>D 67 [z17,a,r,s] 0 1 (ms [a] (v1 fun h0=>ms [s] (w4 fun j0 k0 l0 m0=>Y 38 [a,h0,s,d,e,(.rows [[t,u,v,w,x,y,z,a0,b0,c0,d0,f0,g0]])]))) (ms [a] (v1 fun h0=>ms [s] (w2 fun j0 k0=>O 22 [a,h0,s,nS,d,e,(.rows [[t,u,v,w,x,y,z,a0,b0,c0,d0,f0,g0]]),nS,nS,nS,nS,j0,k0]))))) (ms [a] (w4 fun r s t u=>O 10 [a,r,s,nS,d,e,nS,nS,nS,nS,nS,t,u]))))) (ms [a] (v1 fun m=>ms [c] (w2 fun n o=>O 10 [a,m,c,nS,d,e,nS,nS,nS,nS,nS,n,o]))))))))))))) (O 23 [a,b,c,nS,d,e,nS,nS,nS,nS,nS])))
def g13ab0j(a b c d e:PV):T:=C0 50 [a,b,c] (ms [a,b,c] (w4 fun f g h i=>N3 f i0 (D 51 [z16,a,b,c] 0 0 (ms [a] (v1 fun j=>mz [c,bt] (D 152 [a,j,c] 0 1 (ms [a] (w7 fun k l m n o p q=>D 67 [z17,a,k,l] 0 1 (ms [a] (v1 fun r=>ms [l] (w4 fun s t u v=>Y 36 [a,r,l,(.rows [[m,n,o,p,q]]),d,e]))) (ms [a] (v1 fun r=>ms [l] (w2 fun s t=>O 17 [a,r,l,(.rows [[m,n,o,p,q]]),d,nS,e,nS,nS,nS,nS,s,t]))))) (ms [a] (w4 fun k l m n=>O 11 [a,k,l,nS,d,nS,e,nS,nS,nS,nS,m,n]))))) (ms [a] (v1 fun j=>mz [c,bf] (D 51 [z18,a,j,c] 0 0 (ms [a] (v1 fun k=>mz [c,bt] (D 153 [a,k,c] 0 1 (ms [a] (w8 fun l m n o p q r s=>P 40 d (.rows [[n,o,p,q,r,s]]) fun t=>D 67 [z17,a,l,m] 0 1 (ms [a] (v1 fun u=>ms [m] (w4 fun v w x y=>Y 33 [a,u,m,t,e]))) (ms [a] (v1 fun u=>ms [m] (w2 fun v w=>O 11 [a,u,m,nS,t,nS,e,nS,nS,nS,nS,v,w]))))) (ms [a] (w4 fun l m n o=>O 11 [a,l,m,nS,d,nS,e,nS,nS,nS,nS,n,o]))))) (ms [a] (v1 fun k=>mz [c,bf] (D 51 [z19,a,k,c] 0 0 (ms [a] (v1 fun l=>mz [c,bt] (D 154 [a,l,c] 0 1 (ms [a] (w10 fun m n o p q r s t u v=>D 67 [z17,a,m,n] 0 1 (ms [a] (v1 fun w=>ms [n] (w4 fun x y z a0=>Y 38 [a,w,n,d,(.rows [[o,p,q,r,s,t,u,v]]),e]))) (ms [a] (v1 fun w=>ms [n] (w2 fun x y=>O 22 [a,w,n,nS,d,(.rows [[o,p,q,r,s,t,u,v]]),e,nS,nS,nS,nS,x,y]))))) (ms [a] (w4 fun m n o p=>O 11 [a,m,n,nS,d,nS,e,nS,nS,nS,nS,o,p]))))) (ms [a] (v1 fun l=>mz [c,bf] (D 67 [z20,a,l,c] 0 1 (ms [a] (v1 fun m=>ms [c] (w4 fun n o p q=>D 155 [a,m,c] 0 1 (ms [a] (w15 fun r s t u v w x y z a0 b0 c0 d0 f0 g0=>P 30 e (.rows [[t,u,v,w,x,y,z,a0,b0,c0,d0,f0,g0]]) fun h0=>D 67 [z17,a,r,s] 0 1 (ms [a] (v1 fun j0=>ms [s] (w4 fun k0 l0 m0 n0=>Y 33 [a,j0,s,d,h0]))) (ms [a] (v1 fun j0=>ms [s] (w2 fun k0 l0=>O 11 [a,j0,s,nS,d,nS,h0,nS,nS,nS,nS,k0,l0]))))) (ms [a] (w4 fun r s t u=>O 11 [a,r,s,nS,d,nS,e,nS,nS,nS,nS,t,u]))))) (ms [a] (v1 fun m=>ms [c] (w2 fun n o=>O 11 [a,m,c,nS,d,nS,e,nS,nS,nS,nS,n,o]))))))))))))) (O 24 [a,b,c,nS,d,nS,e,nS,nS,nS,nS])))
def g13ab0k(a b c d e:PV):T:=C0 50 [a,b,c] (ms [a,b,c] (w4 fun f g h i=>N3 f i0 (D 51 [z16,a,b,c] 0 0 (ms [a] (v1 fun j=>mz [c,bt] (D 152 [a,j,c] 0 1 (ms [a] (w7 fun k l m n o p q=>D 67 [z17,a,k,l] 0 1 (ms [a] (v1 fun r=>ms [l] (w4 fun s t u v=>Y 37 [a,r,l,(.rows [[m,n,o,p,q]]),d,e]))) (ms [a] (v1 fun r=>ms [l] (w2 fun s t=>O 19 [a,r,l,(.rows [[m,n,o,p,q]]),nS,d,e,nS,nS,nS,nS,s,t]))))) (ms [a] (w4 fun k l m n=>O 13 [a,k,l,nS,nS,d,e,nS,nS,nS,nS,m,n]))))) (ms [a] (v1 fun j=>mz [c,bf] (D 51 [z18,a,j,c] 0 0 (ms [a] (v1 fun k=>mz [c,bt] (D 153 [a,k,c] 0 1 (ms [a] (w8 fun l m n o p q r s=>D 67 [z17,a,l,m] 0 1 (ms [a] (v1 fun t=>ms [m] (w4 fun u v w x=>Y 38 [a,t,m,(.rows [[n,o,p,q,r,s]]),d,e]))) (ms [a] (v1 fun t=>ms [m] (w2 fun u v=>O 22 [a,t,m,nS,(.rows [[n,o,p,q,r,s]]),d,e,nS,nS,nS,nS,u,v]))))) (ms [a] (w4 fun l m n o=>O 13 [a,l,m,nS,nS,d,e,nS,nS,nS,nS,n,o]))))) (ms [a] (v1 fun k=>mz [c,bf] (D 51 [z19,a,k,c] 0 0 (ms [a] (v1 fun l=>mz [c,bt] (D 154 [a,l,c] 0 1 (ms [a] (w10 fun m n o p q r s t u v=>P 41 d (.rows [[o,p,q,r,s,t,u,v]]) fun w=>D 67 [z17,a,m,n] 0 1 (ms [a] (v1 fun x=>ms [n] (w4 fun y z a0 b0=>Y 34 [a,x,n,w,e]))) (ms [a] (v1 fun x=>ms [n] (w2 fun y z=>O 13 [a,x,n,nS,nS,w,e,nS,nS,nS,nS,y,z]))))) (ms [a] (w4 fun m n o p=>O 13 [a,m,n,nS,nS,d,e,nS,nS,nS,nS,o,p]))))) (ms [a] (v1 fun l=>mz [c,bf] (D 67 [z20,a,l,c] 0 1 (ms [a] (v1 fun m=>ms [c] (w4 fun n o p q=>D 155 [a,m,c] 0 1 (ms [a] (w15 fun r s t u v w x y z a0 b0 c0 d0 f0 g0=>P 30 e (.rows [[t,u,v,w,x,y,z,a0,b0,c0,d0,f0,g0]]) fun h0=>D 67 [z17,a,r,s] 0 1 (ms [a] (v1 fun j0=>ms [s] (w4 fun k0 l0 m0 n0=>Y 34 [a,j0,s,d,h0]))) (ms [a] (v1 fun j0=>ms [s] (w2 fun k0 l0=>O 13 [a,j0,s,nS,nS,d,h0,nS,nS,nS,nS,k0,l0]))))) (ms [a] (w4 fun r s t u=>O 13 [a,r,s,nS,nS,d,e,nS,nS,nS,nS,t,u]))))) (ms [a] (v1 fun m=>ms [c] (w2 fun n o=>O 13 [a,m,c,nS,nS,d,e,nS,nS,nS,nS,n,o]))))))))))))) (O 25 [a,b,c,nS,nS,d,e,nS,nS,nS,nS])))
def g13ab0l(a b c d e f:PV):T:=C0 50 [a,b,c] (ms [a,b,c] (w4 fun g h i j=>N3 g i0 (D 51 [z16,a,b,c] 0 0 (ms [a] (v1 fun k=>mz [c,bt] (D 152 [a,k,c] 0 1 (ms [a] (w7 fun l m n o p q r=>P 39 d (.rows [[n,o,p,q,r]]) fun s=>D 67 [z17,a,l,m] 0 1 (ms [a] (v1 fun t=>ms [m] (w4 fun u v w x=>Y 35 [a,t,m,s,e,f]))) (ms [a] (v1 fun t=>ms [m] (w2 fun u v=>O 16 [a,t,m,s,e,f,nS,nS,nS,nS,nS,u,v]))))) (ms [a] (w4 fun l m n o=>O 16 [a,l,m,d,e,f,nS,nS,nS,nS,nS,n,o]))))) (ms [a] (v1 fun k=>mz [c,bf] (D 51 [z18,a,k,c] 0 0 (ms [a] (v1 fun l=>mz [c,bt] (D 153 [a,l,c] 0 1 (ms [a] (w8 fun m n o p q r s t=>P 40 e (.rows [[o,p,q,r,s,t]]) fun u=>D 67 [z17,a,m,n] 0 1 (ms [a] (v1 fun v=>ms [n] (w4 fun w x y z=>Y 35 [a,v,n,d,u,f]))) (ms [a] (v1 fun v=>ms [n] (w2 fun w x=>O 16 [a,v,n,d,u,f,nS,nS,nS,nS,nS,w,x]))))) (ms [a] (w4 fun m n o p=>O 16 [a,m,n,d,e,f,nS,nS,nS,nS,nS,o,p]))))) (ms [a] (v1 fun l=>mz [c,bf] (D 51 [z19,a,l,c] 0 0 (ms [a] (v1 fun m=>mz [c,bt] (D 154 [a,m,c] 0 1 (ms [a] (w10 fun n o p q r s t u v w=>P 41 f (.rows [[p,q,r,s,t,u,v,w]]) fun x=>D 67 [z17,a,n,o] 0 1 (ms [a] (v1 fun y=>ms [o] (w4 fun z a0 b0 c0=>Y 35 [a,y,o,d,e,x]))) (ms [a] (v1 fun y=>ms [o] (w2 fun z a0=>O 16 [a,y,o,d,e,x,nS,nS,nS,nS,nS,z,a0]))))) (ms [a] (w4 fun n o p q=>O 16 [a,n,o,d,e,f,nS,nS,nS,nS,nS,p,q]))))) (ms [a] (v1 fun m=>mz [c,bf] (D 67 [z20,a,m,c] 0 1 (ms [a] (v1 fun n=>ms [c] (w4 fun o p q r=>D 155 [a,n,c] 0 1 (ms [a] (w15 fun s t u v w x y z a0 b0 c0 d0 f0 g0 h0=>D 67 [z17,a,s,t] 0 1 (ms [a] (v1 fun j0=>ms [t] (w4 fun k0 l0 m0 n0=>Y 39 [a,j0,t,d,e,f,(.rows [[u,v,w,x,y,z,a0,b0,c0,d0,f0,g0,h0]])]))) (ms [a] (v1 fun j0=>ms [t] (w2 fun k0 l0=>O 26 [a,j0,t,d,e,f,(.rows [[u,v,w,x,y,z,a0,b0,c0,d0,f0,g0,h0]]),nS,nS,nS,nS,k0,l0]))))) (ms [a] (w4 fun s t u v=>O 16 [a,s,t,d,e,f,nS,nS,nS,nS,nS,u,v]))))) (ms [a] (v1 fun n=>ms [c] (w2 fun o p=>O 16 [a,n,c,d,e,f,nS,nS,nS,nS,nS,o,p]))))))))))))) (O 27 [a,b,c,d,e,f,nS,nS,nS,nS,nS])))
def g13ab0m(a b c d e f:PV):T:=C0 50 [a,b,c] (ms [a,b,c] (w4 fun g h i j=>N3 g i0 (D 51 [z16,a,b,c] 0 0 (ms [a] (v1 fun k=>mz [c,bt] (D 152 [a,k,c] 0 1 (ms [a] (w7 fun l m n o p q r=>P 39 d (.rows [[n,o,p,q,r]]) fun s=>D 67 [z17,a,l,m] 0 1 (ms [a] (v1 fun t=>ms [m] (w4 fun u v w x=>Y 36 [a,t,m,s,e,f]))) (ms [a] (v1 fun t=>ms [m] (w2 fun u v=>O 17 [a,t,m,s,e,nS,f,nS,nS,nS,nS,u,v]))))) (ms [a] (w4 fun l m n o=>O 17 [a,l,m,d,e,nS,f,nS,nS,nS,nS,n,o]))))) (ms [a] (v1 fun k=>mz [c,bf] (D 51 [z18,a,k,c] 0 0 (ms [a] (v1 fun l=>mz [c,bt] (D 153 [a,l,c] 0 1 (ms [a] (w8 fun m n o p q r s t=>P 40 e (.rows [[o,p,q,r,s,t]]) fun u=>D 67 [z17,a,m,n] 0 1 (ms [a] (v1 fun v=>ms [n] (w4 fun w x y z=>Y 36 [a,v,n,d,u,f]))) (ms [a] (v1 fun v=>ms [n] (w2 fun w x=>O 17 [a,v,n,d,u,nS,f,nS,nS,nS,nS,w,x]))))) (ms [a] (w4 fun m n o p=>O 17 [a,m,n,d,e,nS,f,nS,nS,nS,nS,o,p]))))) (ms [a] (v1 fun l=>mz [c,bf] (D 51 [z19,a,l,c] 0 0 (ms [a] (v1 fun m=>mz [c,bt] (D 154 [a,m,c] 0 1 (ms [a] (w10 fun n o p q r s t u v w=>D 67 [z17,a,n,o] 0 1 (ms [a] (v1 fun x=>ms [o] (w4 fun y z a0 b0=>Y 39 [a,x,o,d,e,(.rows [[p,q,r,s,t,u,v,w]]),f]))) (ms [a] (v1 fun x=>ms [o] (w2 fun y z=>O 26 [a,x,o,d,e,(.rows [[p,q,r,s,t,u,v,w]]),f,nS,nS,nS,nS,y,z]))))) (ms [a] (w4 fun n o p q=>O 17 [a,n,o,d,e,nS,f,nS,nS,nS,nS,p,q]))))) (ms [a] (v1 fun m=>mz [c,bf] (D 67 [z20,a,m,c] 0 1 (ms [a] (v1 fun n=>ms [c] (w4 fun o p q r=>D 155 [a,n,c] 0 1 (ms [a] (w15 fun s t u v w x y z a0 b0 c0 d0 f0 g0 h0=>P 30 f (.rows [[u,v,w,x,y,z,a0,b0,c0,d0,f0,g0,h0]]) fun j0=>D 67 [z17,a,s,t] 0 1 (ms [a] (v1 fun k0=>ms [t] (w4 fun l0 m0 n0 o0=>Y 36 [a,k0,t,d,e,j0]))) (ms [a] (v1 fun k0=>ms [t] (w2 fun l0 m0=>O 17 [a,k0,t,d,e,nS,j0,nS,nS,nS,nS,l0,m0]))))) (ms [a] (w4 fun s t u v=>O 17 [a,s,t,d,e,nS,f,nS,nS,nS,nS,u,v]))))) (ms [a] (v1 fun n=>ms [c] (w2 fun o p=>O 17 [a,n,c,d,e,nS,f,nS,nS,nS,nS,o,p]))))))))))))) (O 28 [a,b,c,d,e,nS,f,nS,nS,nS,nS])))
def g13ab0n(a b c d e f:PV):T:=C0 50 [a,b,c] (ms [a,b,c] (w4 fun g h i j=>N3 g i0 (D 51 [z16,a,b,c] 0 0 (ms [a] (v1 fun k=>mz [c,bt] (D 152 [a,k,c] 0 1 (ms [a] (w7 fun l m n o p q r=>P 39 d (.rows [[n,o,p,q,r]]) fun s=>D 67 [z17,a,l,m] 0 1 (ms [a] (v1 fun t=>ms [m] (w4 fun u v w x=>Y 37 [a,t,m,s,e,f]))) (ms [a] (v1 fun t=>ms [m] (w2 fun u v=>O 19 [a,t,m,s,nS,e,f,nS,nS,nS,nS,u,v]))))) (ms [a] (w4 fun l m n o=>O 19 [a,l,m,d,nS,e,f,nS,nS,nS,nS,n,o]))))) (ms [a] (v1 fun k=>mz [c,bf] (D 51 [z18,a,k,c] 0 0 (ms [a] (v1 fun l=>mz [c,bt] (D 153 [a,l,c] 0 1 (ms [a] (w8 fun m n o p q r s t=>D 67 [z17,a,m,n] 0 1 (ms [a] (v1 fun u=>ms [n] (w4 fun v w x y=>Y 39 [a,u,n,d,(.rows [[o,p,q,r,s,t]]),e,f]))) (ms [a] (v1 fun u=>ms [n] (w2 fun v w=>O 26 [a,u,n,d,(.rows [[o,p,q,r,s,t]]),e,f,nS,nS,nS,nS,v,w]))))) (ms [a] (w4 fun m n o p=>O 19 [a,m,n,d,nS,e,f,nS,nS,nS,nS,o,p]))))) (ms [a] (v1 fun l=>mz [c,bf] (D 51 [z19,a,l,c] 0 0 (ms [a] (v1 fun m=>mz [c,bt] (D 154 [a,m,c] 0 1 (ms [a] (w10 fun n o p q r s t u v w=>P 41 e (.rows [[p,q,r,s,t,u,v,w]]) fun x=>D 67 [z17,a,n,o] 0 1 (ms [a] (v1 fun y=>ms [o] (w4 fun z a0 b0 c0=>Y 37 [a,y,o,d,x,f]))) (ms [a] (v1 fun y=>ms [o] (w2 fun z a0=>O 19 [a,y,o,d,nS,x,f,nS,nS,nS,nS,z,a0]))))) (ms [a] (w4 fun n o p q=>O 19 [a,n,o,d,nS,e,f,nS,nS,nS,nS,p,q]))))) (ms [a] (v1 fun m=>mz [c,bf] (D 67 [z20,a,m,c] 0 1 (ms [a] (v1 fun n=>ms [c] (w4 fun o p q r=>D 155 [a,n,c] 0 1 (ms [a] (w15 fun s t u v w x y z a0 b0 c0 d0 f0 g0 h0=>P 30 f (.rows [[u,v,w,x,y,z,a0,b0,c0,d0,f0,g0,h0]]) fun j0=>D 67 [z17,a,s,t] 0 1 (ms [a] (v1 fun k0=>ms [t] (w4 fun l0 m0 n0 o0=>Y 37 [a,k0,t,d,e,j0]))) (ms [a] (v1 fun k0=>ms [t] (w2 fun l0 m0=>O 19 [a,k0,t,d,nS,e,j0,nS,nS,nS,nS,l0,m0]))))) (ms [a] (w4 fun s t u v=>O 19 [a,s,t,d,nS,e,f,nS,nS,nS,nS,u,v]))))) (ms [a] (v1 fun n=>ms [c] (w2 fun o p=>O 19 [a,n,c,d,nS,e,f,nS,nS,nS,nS,o,p]))))))))))))) (O 29 [a,b,c,d,nS,e,f,nS,nS,nS,nS])))
def g13ab0o(a b c d e f:PV):T:=C0 50 [a,b,c] (ms [a,b,c] (w4 fun g h i j=>N3 g i0 (D 51 [z16,a,b,c] 0 0 (ms [a] (v1 fun k=>mz [c,bt] (D 152 [a,k,c] 0 1 (ms [a] (w7 fun l m n o p q r=>D 67 [z17,a,l,m] 0 1 (ms [a] (v1 fun s=>ms [m] (w4 fun t u v w=>Y 39 [a,s,m,(.rows [[n,o,p,q,r]]),d,e,f]))) (ms [a] (v1 fun s=>ms [m] (w2 fun t u=>O 26 [a,s,m,(.rows [[n,o,p,q,r]]),d,e,f,nS,nS,nS,nS,t,u]))))) (ms [a] (w4 fun l m n o=>O 22 [a,l,m,nS,d,e,f,nS,nS,nS,nS,n,o]))))) (ms [a] (v1 fun k=>mz [c,bf] (D 51 [z18,a,k,c] 0 0 (ms [a] (v1 fun l=>mz [c,bt] (D 153 [a,l,c] 0 1 (ms [a] (w8 fun m n o p q r s t=>P 40 d (.rows [[o,p,q,r,s,t]]) fun u=>D 67 [z17,a,m,n] 0 1 (ms [a] (v1 fun v=>ms [n] (w4 fun w x y z=>Y 38 [a,v,n,u,e,f]))) (ms [a] (v1 fun v=>ms [n] (w2 fun w x=>O 22 [a,v,n,nS,u,e,f,nS,nS,nS,nS,w,x]))))) (ms [a] (w4 fun m n o p=>O 22 [a,m,n,nS,d,e,f,nS,nS,nS,nS,o,p]))))) (ms [a] (v1 fun l=>mz [c,bf] (D 51 [z19,a,l,c] 0 0 (ms [a] (v1 fun m=>mz [c,bt] (D 154 [a,m,c] 0 1 (ms [a] (w10 fun n o p q r s t u v w=>P 41 e (.rows [[p,q,r,s,t,u,v,w]]) fun x=>D 67 [z17,a,n,o] 0 1 (ms [a] (v1 fun y=>ms [o] (w4 fun z a0 b0 c0=>Y 38 [a,y,o,d,x,f]))) (ms [a] (v1 fun y=>ms [o] (w2 fun z a0=>O 22 [a,y,o,nS,d,x,f,nS,nS,nS,nS,z,a0]))))) (ms [a] (w4 fun n o p q=>O 22 [a,n,o,nS,d,e,f,nS,nS,nS,nS,p,q]))))) (ms [a] (v1 fun m=>mz [c,bf] (D 67 [z20,a,m,c] 0 1 (ms [a] (v1 fun n=>ms [c] (w4 fun o p q r=>D 155 [a,n,c] 0 1 (ms [a] (w15 fun s t u v w x y z a0 b0 c0 d0 f0 g0 h0=>P 30 f (.rows [[u,v,w,x,y,z,a0,b0,c0,d0,f0,g0,h0]]) fun j0=>D 67 [z17,a,s,t] 0 1 (ms [a] (v1 fun k0=>ms [t] (w4 fun l0 m0 n0 o0=>Y 38 [a,k0,t,d,e,j0]))) (ms [a] (v1 fun k0=>ms [t] (w2 fun l0 m0=>O 22 [a,k0,t,nS,d,e,j0,nS,nS,nS,nS,l0,m0]))))) (ms [a] (w4 fun s t u v=>O 22 [a,s,t,nS,d,e,f,nS,nS,nS,nS,u,v]))))) (ms [a] (v1 fun n=>ms [c] (w2 fun o p=>O 22 [a,n,c,nS,d,e,f,nS,nS,nS,nS,o,p]))))))))))))) (O 30 [a,b,c,nS,d,e,f,nS,nS,nS,nS])))
def g13ab0p(a b c d e f g:PV):T:=C0 50 [a,b,c] (ms [a,b,c] (w4 fun h i j k=>N3 h i0 (D 51 [z16,a,b,c] 0 0 (ms [a] (v1 fun l=>mz [c,bt] (D 152 [a,l,c] 0 1 (ms [a] (w7 fun m n o p q r s=>P 39 d (.rows [[o,p,q,r,s]]) fun t=>D 67 [z17,a,m,n] 0 1 (ms [a] (v1 fun u=>ms [n] (w4 fun v w x y=>Y 39 [a,u,n,t,e,f,g]))) (ms [a] (v1 fun u=>ms [n] (w2 fun v w=>O 26 [a,u,n,t,e,f,g,nS,nS,nS,nS,v,w]))))) (ms [a] (w4 fun m n o p=>O 26 [a,m,n,d,e,f,g,nS,nS,nS,nS,o,p]))))) (ms [a] (v1 fun l=>mz [c,bf] (D 51 [z18,a,l,c] 0 0 (ms [a] (v1 fun m=>mz [c,bt] (D 153 [a,m,c] 0 1 (ms [a] (w8 fun n o p q r s t u=>P 40 e (.rows [[p,q,r,s,t,u]]) fun v=>D 67 [z17,a,n,o] 0 1 (ms [a] (v1 fun w=>ms [o] (w4 fun x y z a0=>Y 39 [a,w,o,d,v,f,g]))) (ms [a] (v1 fun w=>ms [o] (w2 fun x y=>O 26 [a,w,o,d,v,f,g,nS,nS,nS,nS,x,y]))))) (ms [a] (w4 fun n o p q=>O 26 [a,n,o,d,e,f,g,nS,nS,nS,nS,p,q]))))) (ms [a] (v1 fun m=>mz [c,bf] (D 51 [z19,a,m,c] 0 0 (ms [a] (v1 fun n=>mz [c,bt] (D 154 [a,n,c] 0 1 (ms [a] (w10 fun o p q r s t u v w x=>P 41 f (.rows [[q,r,s,t,u,v,w,x]]) fun y=>D 67 [z17,a,o,p] 0 1 (ms [a] (v1 fun z=>ms [p] (w4 fun a0 b0 c0 d0=>Y 39 [a,z,p,d,e,y,g]))) (ms [a] (v1 fun z=>ms [p] (w2 fun a0 b0=>O 26 [a,z,p,d,e,y,g,nS,nS,nS,nS,a0,b0]))))) (ms [a] (w4 fun o p q r=>O 26 [a,o,p,d,e,f,g,nS,nS,nS,nS,q,r]))))) (ms [a] (v1 fun n=>mz [c,bf] (D 67 [z20,a,n,c] 0 1 (ms [a] (v1 fun o=>ms [c] (w4 fun p q r s=>D 155 [a,o,c] 0 1 (ms [a] (w15 fun t u v w x y z a0 b0 c0 d0 f0 g0 h0 j0=>P 30 g (.rows [[v,w,x,y,z,a0,b0,c0,d0,f0,g0,h0,j0]]) fun k0=>D 67 [z17,a,t,u] 0 1 (ms [a] (v1 fun l0=>ms [u] (w4 fun m0 n0 o0 p0=>Y 39 [a,l0,u,d,e,f,k0]))) (ms [a] (v1 fun l0=>ms [u] (w2 fun m0 n0=>O 26 [a,l0,u,d,e,f,k0,nS,nS,nS,nS,m0,n0]))))) (ms [a] (w4 fun t u v w=>O 26 [a,t,u,d,e,f,g,nS,nS,nS,nS,v,w]))))) (ms [a] (v1 fun o=>ms [c] (w2 fun p q=>O 26 [a,o,c,d,e,f,g,nS,nS,nS,nS,p,q]))))))))))))) (O 31 [a,b,c,d,e,f,g,nS,nS,nS,nS])))
def g22a(a b c d:PV):T:=C0 50 [b,c,d] (ms [b,c,d] (w4 fun e f g h=>N3 e a (C0 85 [(iv 110),h,b,c,d] (ms [b,c,d] (w2 fun i j=>O0 [b,c,d,i,j]))) (C0 86 [b,c,d] (ms [b] (v1 fun i=>ms [d] (w4 fun j k l m=>O 1 [b,i,d,j,k,l,m]))))))
def g11a(a b c:PV):T:=D 87 [a,b,c] 1 0 (ms [a,b] (w1 fun d=>D 156 [a,b,d] 0 1 (ms [a] (w13 fun e f g h i j k l m n o p q=>AQ 28 (.rows []) (.rows [[g,h,i,j,k,l,m,n,o,p,q]]) fun r=>J (D 42 [a,e,f,r] 1 3 (ms [a] (v2 fun s t=>mz [r,i0,e0,i0,i0,e0,i0,nS,nS,nS,nS,i0,nS,nS] (C0 0 [(.rows [])] (w3 fun u v w=>TW .neq 33 w i0 (X 76 nS v (w4 fun x y z a0=>C0 85 [w,a0,a,s,t] (ms [a,s,t] (w2 fun b0 c0=>S3 t i1 fun d0=>O0 [a,s,d0,b0,c0])))) (L 28 r fun x=>MK 89 x fun y=>L 89 y fun z=>C0 44 [i0,z,u,y,r] (v1 fun a0=>mz [r,i0,e0,i0,i0,e0,i0,nS,nS,nS,nS,i0,u,nS] (L 89 u fun b0=>C0 46 [i0,b0,u,a0,r] (v2 fun c0 d0=>mz [i0,e0,i0,i0,e0,i0,nS,nS,nS,nS,i0] (X 28 d0 i0 (w11 fun f0 g0 h0 j0 k0 l0 m0 n0 o0 p0 q0=>S3 t i1 fun r0=>O 1 [a,s,r0,f0,g0,h0,j0,k0,l0,m0,n0,o0,p0,q0])))))))))) (ms [a] (v2 fun s t=>ms [i0,e0,i0,i0,e0,i0,nS,nS,nS,nS,i0] (w3 fun u v w=>C0 0 [v] (w3 fun x y z=>TW .neq 33 z i0 (X 76 w y (w4 fun a0 b0 c0 d0=>C0 85 [z,d0,a,s,t] (ms [a,s,t] (w2 fun f0 g0=>S3 t i1 fun h0=>O0 [a,s,h0,f0,g0])))) (L 28 u fun a0=>MK 89 a0 fun b0=>L 89 b0 fun c0=>C0 45 [i0,c0,x,w,b0,u] (v1 fun d0=>mz [u,i0,e0,i0,i0,e0,i0,nS,nS,nS,nS,i0,x,w] (L 89 x fun f0=>C0 47 [i0,f0,x,w,d0,u] (v2 fun g0 h0=>mz [i0,e0,i0,i0,e0,i0,nS,nS,nS,nS,i0,w] (X 28 h0 i0 (w11 fun j0 k0 l0 m0 n0 o0 p0 q0 r0 s0 t0=>S3 t i1 fun u0=>O 1 [a,s,u0,j0,k0,l0,m0,n0,o0,p0,q0,r0,s0,t0]))))))))))) (D 42 [a,e,f,r] 0 2 (ms [a] (v2 fun s t=>ms [r,i0,e0,i0,i0,e0,i0,nS,nS,nS,nS,i0] (w2 fun u v=>S3 t i1 fun w=>O0 [a,s,w,u,v]))) (ms [a] (v2 fun s t=>ms [i0,e0,i0,i0,e0,i0,nS,nS,nS,nS,i0] (w2 fun u v=>S3 t i1 fun w=>O0 [a,s,w,u,v])))))) (ms [a] (w4 fun e f g h=>S3 f i1 fun i=>O0 [a,e,i,g,h])))) (ms [a,b] (w3 fun d e f=>O0 [a,b,d,e,f]))
def g11ab0a(a b c d:PV):T:=C0 50 [a,b,c] (ms [a,b,c] (w4 fun e f g h=>E3 e i5 (C0 86 [a,b,c] (ms [a] (v1 fun i=>ms [c] (w4 fun j k l m=>D 156 [a,i,c] 0 1 (ms [a] (w13 fun n o p q r s t u v w x y z=>AQ 28 d (.rows [[p,q,r,s,t,u,v,w,x,y,z]]) fun a0=>Y 43 [(.rows [[j,k,l,m]]),(.rows [[k]]),a,n,o,a0])) (ms [a] (w4 fun n o p q=>O0 [a,n,o,d,i0,e0,i0,i0,e0,i0,nS,nS,nS,nS,i0,p,q])))))) (O 1 [a,b,c,d,i0,e0,i0,i0,e0,i0,nS,nS,nS,nS,i0,nS,nS])))
def g11ab0b(a b c d e f:PV):T:=C0 50 [c,d,e] (ms [c,d,e] (w4 fun g h i j=>E3 g i5 (C0 86 [c,d,e] (ms [c] (v1 fun k=>ms [e] (w4 fun l m n o=>P 76 a (.rows [[l,m,n,o]]) fun p=>L 76 p fun q=>S3 q i1 fun r=>X 76 p r (w4 fun s t u v=>P 23 b (.rows [[t]]) fun w=>D 156 [c,k,e] 0 1 (ms [c] (w13 fun x y z a0 b0 c0 d0 f0 g0 h0 j0 k0 l0=>AQ 28 f (.rows [[z,a0,b0,c0,d0,f0,g0,h0,j0,k0,l0]]) fun m0=>Y 43 [p,w,c,x,y,m0])) (ms [c] (w4 fun x y z a0=>O 2 [c,x,y,i0,e0,i0,i0,e0,i0,nS,nS,nS,nS,i0,z,a0]))))))) (O 3 [c,d,e,i0,e0,i0,i0,e0,i0,nS,nS,nS,nS,i0,f,b,a])))
def g11ab2a(a b c d e:PV):T:=L3 a b (X 89 d a (w1 fun f=>SE d a 0 [a] fun g=>A3 a i1 fun h=>Y 44 [h,b,c,g,e])) (O0 [d,e,i0,e0,i0,i0,e0,i0,nS,nS,nS,nS,i0,c,nS])
def g11ab2b(a b c d e f:PV):T:=L3 a b (X 89 e a (w1 fun g=>SE e a 0 [a] fun h=>A3 a i1 fun i=>Y 45 [i,b,c,d,h,f])) (O0 [e,f,i0,e0,i0,i0,e0,i0,nS,nS,nS,nS,i0,c,d])
def g11ab4a(a b c d e:PV):T:=L3 a b (X 89 c a (w1 fun f=>A3 f i1 fun g=>C0 48 [f,f,g,a,b,c,d,e] (ms [d,e,i0,e0,i0,i0,e0,i0,nS,nS,nS,nS,i0] (v1 fun h=>mz [nS,f,g,a,b,c] (X 76 nS f (w4 fun i j k l=>X 28 e h (w11 fun m n o p q r s t u v w=>X 28 e g (w11 fun x y z a0 b0 c0 d0 f0 g0 h0 j0=>C0 157 [i,j,k,l,m,n,o,p,q,r,s,t,u,v,w,x,y,z,a0,b0,c0,d0,f0,g0,h0,j0] (w11 fun k0 l0 m0 n0 o0 p0 q0 r0 s0 t0 u0=>SE e h 0 [k0,l0,m0,n0,o0,p0,q0,r0,s0,t0,u0] fun v0=>X 89 d g (w1 fun w0=>SE d g 0 [h] fun x0=>A3 a i1 fun y0=>Y 46 [y0,b,c,x0,v0])))))))))) (O0 [d,e,i0,e0,i0,i0,e0,i0,nS,nS,nS,nS,i0])
def g11ab4b(a b c d e f:PV):T:=L3 a b (X 89 c a (w1 fun g=>A3 g i1 fun h=>C0 49 [g,d,g,h,a,b,c,e,f] (ms [e,f,i0,e0,i0,i0,e0,i0,nS,nS,nS,nS,i0] (v1 fun i=>mz [d,g,h,a,b,c] (X 76 d g (w4 fun j k l m=>X 28 f i (w11 fun n o p q r s t u v w x=>X 28 f h (w11 fun y z a0 b0 c0 d0 f0 g0 h0 j0 k0=>C0 157 [j,k,l,m,n,o,p,q,r,s,t,u,v,w,x,y,z,a0,b0,c0,d0,f0,g0,h0,j0,k0] (w11 fun l0 m0 n0 o0 p0 q0 r0 s0 t0 u0 v0=>SE f i 0 [l0,m0,n0,o0,p0,q0,r0,s0,t0,u0,v0] fun w0=>X 89 e h (w1 fun x0=>SE e h 0 [i] fun y0=>A3 a i1 fun a1=>Y 47 [a1,b,c,d,y0,w0])))))))))) (O0 [e,f,i0,e0,i0,i0,e0,i0,nS,nS,nS,nS,i0,d])
def g11ab6a(a b c d e f g h:PV):T:=X 89 g a (w1 fun i=>N3 i a (Y 48 [i,b,c,d,e,f,g,h]) (O0 [g,h,i0,e0,i0,i0,e0,i0,nS,nS,nS,nS,i0,a,nS,b,c,d,e,f]))
def g11ab6b(a b c d e f g h i:PV):T:=X 89 h a (w1 fun j=>N3 j a (Y 49 [j,b,c,d,e,f,g,h,i]) (O0 [h,i,i0,e0,i0,i0,e0,i0,nS,nS,nS,nS,i0,a,b,c,d,e,f,g]))
def g25a(a b c:PV):T:=X 76 a b (w4 fun d e f g=>O0 [a,b,c,d,e,f,g])
def g31a(a b c d:PV):T:=D 91 [a,b,c,d] 0 0 (mz [b,c,d,bt] (A3 c i1 fun e=>O0 [b,e,d,bt])) (mz [b,c,d,bf] (O0 [b,c,d,bf]))
def g32a(a b c:PV):T:=D 40 [i2,a,b,c] 1 0 (ms [a] (v1 fun d=>ms [c] (w4 fun e f g h=>D 53 [a,d,c,f,h] 0 1 (ms [a] (v1 fun i=>mz [c,f,nS,nS,nS,h,e0,nS,nS,nS,i0] (D 67 [z21,a,i,c] 0 1 (ms [a] (v1 fun j=>ms [c] (w4 fun k l m n=>J (C0 55 [a,j,c,f,h] (ms [a] (v2 fun o p=>ms [f,nS] (v1 fun q=>mz [nS,h,e0,nS,nS,nS,i0] (D 51 [z22,a,o,p] 0 0 (ms [a] (v1 fun r=>mz [p,bt] (D 67 [z23,a,r,p] 0 1 (ms [a] (v1 fun s=>ms [p] (w4 fun t u v w=>J (J (C0 158 [a,s,p] (ms [a] (v1 fun x=>mz [p,nS] (D 67 [z24,a,x,p] 0 1 (ms [a] (v1 fun y=>ms [p] (w4 fun z a0 b0 c0=>O 3 [a,y,p,f,nS,q,nS,h]))) (ms [a] (v1 fun y=>ms [p] (w2 fun z a0=>O 1 [a,y,p,z,a0]))))))) (C0 92 [a,s,p] (ms [a] (v1 fun x=>ms [p] (w1 fun y=>D 67 [z24,a,x,p] 0 1 (ms [a] (v1 fun z=>ms [p] (w4 fun a0 b0 c0 d0=>O 4 [a,z,p,f,nS,q,y,h]))) (ms [a] (v1 fun z=>ms [p] (w2 fun a0 b0=>O 1 [a,z,p,a0,b0])))))))) (C 158 [a,s,p] 1 (ms [a] (v1 fun x=>ms [p] (w2 fun y z=>O 1 [a,x,p,y,z]))))))) (ms [a] (v1 fun s=>ms [p] (w2 fun t u=>O 1 [a,s,p,t,u])))))) (ms [a] (v1 fun r=>mz [p,bf] (O 3 [a,r,p,f,nS,q,nS,h])))))))) (D 55 [a,j,c,f,h] 1 2 (ms [a] (v2 fun o p=>ms [f,nS,nS,nS,h,e0,nS,nS,nS,i0] (w2 fun q r=>O 1 [a,o,p,q,r]))) (ms [a] (v2 fun o p=>ms [f,nS] (v1 fun q=>ms [nS,h,e0,nS,nS,nS,i0] (w2 fun r s=>O 1 [a,o,p,r,s])))))))) (ms [a] (v1 fun j=>ms [c] (w2 fun k l=>O 1 [a,j,c,k,l])))))) (ms [a] (v1 fun i=>ms [c,f] (v1 fun j=>mz [nS,nS,h,e0,nS,nS,nS,i0] (D 67 [z21,a,i,c] 0 1 (ms [a] (v1 fun k=>ms [c] (w4 fun l m n o=>J (C0 56 [a,k,c,f,j,h] (ms [a] (v2 fun p q=>ms [f,j] (v1 fun r=>mz [nS,h,e0,nS,nS,nS,i0] (D 51 [z22,a,p,q] 0 0 (ms [a] (v1 fun s=>mz [q,bt] (D 67 [z23,a,s,q] 0 1 (ms [a] (v1 fun t=>ms [q] (w4 fun u v w x=>J (J (C0 158 [a,t,q] (ms [a] (v1 fun y=>mz [q,nS] (D 67 [z24,a,y,q] 0 1 (ms [a] (v1 fun z=>ms [q] (w4 fun a0 b0 c0 d0=>O 7 [a,z,q,f,j,r,nS,h]))) (ms [a] (v1 fun z=>ms [q] (w2 fun a0 b0=>O 1 [a,z,q,a0,b0]))))))) (C0 92 [a,t,q] (ms [a] (v1 fun y=>ms [q] (w1 fun z=>D 67 [z24,a,y,q] 0 1 (ms [a] (v1 fun a0=>ms [q] (w4 fun b0 c0 d0 f0=>O 8 [a,a0,q,f,j,r,z,h]))) (ms [a] (v1 fun a0=>ms [q] (w2 fun b0 c0=>O 1 [a,a0,q,b0,c0])))))))) (C 158 [a,t,q] 1 (ms [a] (v1 fun y=>ms [q] (w2 fun z a0=>O 1 [a,y,q,z,a0]))))))) (ms [a] (v1 fun t=>ms [q] (w2 fun u v=>O 1 [a,t,q,u,v])))))) (ms [a] (v1 fun s=>mz [q,bf] (O 7 [a,s,q,f,j,r,nS,h])))))))) (D 56 [a,k,c,f,j,h] 1 2 (ms [a] (v2 fun p q=>ms [f,j,nS,nS,h,e0,nS,nS,nS,i0] (w2 fun r s=>O 1 [a,p,q,r,s]))) (ms [a] (v2 fun p q=>ms [f,j] (v1 fun r=>ms [nS,h,e0,nS,nS,nS,i0] (w2 fun s t=>O 1 [a,p,q,s,t])))))))) (ms [a] (v1 fun k=>ms [c] (w2 fun l m=>O 1 [a,k,c,l,m])))))))))) (ms [a] (v1 fun d=>ms [c] (w2 fun e f=>O 1 [a,d,c,e,f])))
def g32ab0a(a b c d e:PV):T:=C0 50 [a,b,c] (ms [a,b,c] (w4 fun f g h i=>E3 f i1 (C0 86 [a,b,c] (ms [a] (v1 fun j=>ms [c] (w4 fun k l m n=>Y 54 [a,j,c,d,(.rows [[l]]),e])))) (O0 [a,b,c,d,nS,nS,nS,e,e0,nS,nS,nS,i0])))
def g32ab0b(a b c d e f:PV):T:=C0 50 [a,b,c] (ms [a,b,c] (w4 fun g h i j=>E3 g i1 (C0 86 [a,b,c] (ms [a] (v1 fun k=>ms [c] (w4 fun l m n o=>P 23 e (.rows [[m]]) fun p=>Y 54 [a,k,c,d,p,f])))) (O 1 [a,b,c,d,e,nS,nS,f,e0,nS,nS,nS,i0])))
def g32ab2a(a b c d e:PV):T:=D 40 [i2,a,b,c] 1 0 (ms [a] (v1 fun f=>ms [c] (w4 fun g h i j=>J (D 59 [a,f,c,h,j,d,e] 1 3 (ms [a] (v2 fun k l=>mz [h,nS,j,d,nS,nS,nS,e,e0,nS,nS,nS,i0] (D 51 [z25,a,k,l] 0 0 (ms [a] (v1 fun m=>mz [l,bt] (Y 57 [a,m,l,d,(.rows [[h,nS,j]]),e]))) (ms [a] (v1 fun m=>mz [l,bf] (O0 [a,m,l,d,nS,(.rows [[h,nS,j]]),nS,e,e0,nS,nS,nS,i0])))))) (ms [a] (v2 fun k l=>ms [h] (v1 fun m=>mz [j,d,nS,nS,nS,e,e0,nS,nS,nS,i0] (D 51 [z25,a,k,l] 0 0 (ms [a] (v1 fun n=>mz [l,bt] (Y 57 [a,n,l,d,(.rows [[h,m,j]]),e]))) (ms [a] (v1 fun n=>mz [l,bf] (O0 [a,n,l,d,nS,(.rows [[h,m,j]]),nS,e,e0,nS,nS,nS,i0])))))))) (D 59 [a,f,c,h,j,d,e] 0 2 (ms [a] (v2 fun k l=>ms [h,nS,j,d,nS,nS,nS,e,e0,nS,nS,nS,i0] (w2 fun m n=>O 1 [a,k,l,d,nS,nS,nS,e,e0,nS,nS,nS,i0,m,n]))) (ms [a] (v2 fun k l=>ms [h] (v1 fun m=>ms [j,d,nS,nS,nS,e,e0,nS,nS,nS,i0] (w2 fun n o=>O 1 [a,k,l,d,nS,nS,nS,e,e0,nS,nS,nS,i0,n,o])))))))) (ms [a] (v1 fun f=>ms [c] (w2 fun g h=>O 1 [a,f,c,d,nS,nS,nS,e,e0,nS,nS,nS,i0,g,h])))
def g32ab2b(a b c d e f:PV):T:=D 40 [i2,a,b,c] 1 0 (ms [a] (v1 fun g=>ms [c] (w4 fun h i j k=>J (D 60 [a,g,c,i,k,d,e,f] 1 5 (ms [a] (v2 fun l m=>mz [i,nS,k,d,e,nS,nS,f,e0,nS,nS,nS,i0] (D 51 [z25,a,l,m] 0 0 (ms [a] (v1 fun n=>mz [m,bt] (Y 58 [a,n,m,d,e,(.rows [[i,nS,k]]),f]))) (ms [a] (v1 fun n=>mz [m,bf] (O0 [a,n,m,d,e,(.rows [[i,nS,k]]),nS,f,e0,nS,nS,nS,i0])))))) (ms [a] (v2 fun l m=>ms [i] (v1 fun n=>mz [k,d,e,nS,nS,f,e0,nS,nS,nS,i0] (D 51 [z25,a,l,m] 0 0 (ms [a] (v1 fun o=>mz [m,bt] (Y 58 [a,o,m,d,e,(.rows [[i,n,k]]),f]))) (ms [a] (v1 fun o=>mz [m,bf] (O0 [a,o,m,d,e,(.rows [[i,n,k]]),nS,f,e0,nS,nS,nS,i0])))))))) (D 60 [a,g,c,i,k,d,e,f] 0 4 (ms [a] (v2 fun l m=>ms [i,nS,k,d,e,nS,nS,f,e0,nS,nS,nS,i0] (w2 fun n o=>O 1 [a,l,m,d,e,nS,nS,f,e0,nS,nS,nS,i0,n,o]))) (ms [a] (v2 fun l m=>ms [i] (v1 fun n=>ms [k,d,e,nS,nS,f,e0,nS,nS,nS,i0] (w2 fun o p=>O 1 [a,l,m,d,e,nS,nS,f,e0,nS,nS,nS,i0,o,p])))))))) (ms [a] (v1 fun g=>ms [c] (w2 fun h i=>O 1 [a,g,c,d,e,nS,nS,f,e0,nS,nS,nS,i0,h,i])))
def g32ab2c(a b c d e f:PV):T:=D 40 [i2,a,b,c] 1 0 (ms [a] (v1 fun g=>ms [c] (w4 fun h i j k=>J (D 61 [a,g,c,i,k,d,e,f] 3 7 (ms [a] (v2 fun l m=>mz [i,nS,k,d,nS,e,nS,f,e0,nS,nS,nS,i0] (P 57 e (.rows [[i,nS,k]]) fun n=>D 51 [z25,a,l,m] 0 0 (ms [a] (v1 fun o=>mz [m,bt] (Y 57 [a,o,m,d,n,f]))) (ms [a] (v1 fun o=>mz [m,bf] (O0 [a,o,m,d,nS,n,nS,f,e0,nS,nS,nS,i0])))))) (ms [a] (v2 fun l m=>ms [i] (v1 fun n=>mz [k,d,nS,e,nS,f,e0,nS,nS,nS,i0] (P 57 e (.rows [[i,n,k]]) fun o=>D 51 [z25,a,l,m] 0 0 (ms [a] (v1 fun p=>mz [m,bt] (Y 57 [a,p,m,d,o,f]))) (ms [a] (v1 fun p=>mz [m,bf] (O0 [a,p,m,d,nS,o,nS,f,e0,nS,nS,nS,i0])))))))) (D 61 [a,g,c,i,k,d,e,f] 2 6 (ms [a] (v2 fun l m=>ms [i,nS,k,d,nS,e,nS,f,e0,nS,nS,nS,i0] (w2 fun n o=>O 2 [a,l,m,d,nS,e,nS,f,e0,nS,nS,nS,i0,n,o]))) (ms [a] (v2 fun l m=>ms [i] (v1 fun n=>ms [k,d,nS,e,nS,f,e0,nS,nS,nS,i0] (w2 fun o p=>O 2 [a,l,m,d,nS,e,nS,f,e0,nS,nS,nS,i0,o,p])))))))) (ms [a] (v1 fun g=>ms [c] (w2 fun h i=>O 2 [a,g,c,d,nS,e,nS,f,e0,nS,nS,nS,i0,h,i])))
def g32ab2d(a b c d e f g:PV):T:=D 40 [i2,a,b,c] 1 0 (ms [a] (v1 fun h=>ms [c] (w4 fun i j k l=>J (D 62 [a,h,c,j,l,d,e,f,g] 1 3 (ms [a] (v2 fun m n=>mz [j,nS,l,d,e,f,nS,g,e0,nS,nS,nS,i0] (P 57 f (.rows [[j,nS,l]]) fun o=>D 51 [z25,a,m,n] 0 0 (ms [a] (v1 fun p=>mz [n,bt] (Y 58 [a,p,n,d,e,o,g]))) (ms [a] (v1 fun p=>mz [n,bf] (O0 [a,p,n,d,e,o,nS,g,e0,nS,nS,nS,i0])))))) (ms [a] (v2 fun m n=>ms [j] (v1 fun o=>mz [l,d,e,f,nS,g,e0,nS,nS,nS,i0] (P 57 f (.rows [[j,o,l]]) fun p=>D 51 [z25,a,m,n] 0 0 (ms [a] (v1 fun q=>mz [n,bt] (Y 58 [a,q,n,d,e,p,g]))) (ms [a] (v1 fun q=>mz [n,bf] (O0 [a,q,n,d,e,p,nS,g,e0,nS,nS,nS,i0])))))))) (D 62 [a,h,c,j,l,d,e,f,g] 0 2 (ms [a] (v2 fun m n=>ms [j,nS,l,d,e,f,nS,g,e0,nS,nS,nS,i0] (w2 fun o p=>O 2 [a,m,n,d,e,f,nS,g,e0,nS,nS,nS,i0,o,p]))) (ms [a] (v2 fun m n=>ms [j] (v1 fun o=>ms [l,d,e,f,nS,g,e0,nS,nS,nS,i0] (w2 fun p q=>O 2 [a,m,n,d,e,f,nS,g,e0,nS,nS,nS,i0,p,q])))))))) (ms [a] (v1 fun h=>ms [c] (w2 fun i j=>O 2 [a,h,c,d,e,f,nS,g,e0,nS,nS,nS,i0,i,j])))
def g32ab4a(a b c d e f g:PV):T:=D 95 [a,b,c] 0 0 (mz [a,b,c,bt] (D 159 [a,b,c] 0 1 (ms [a] (w6 fun h i j k l m=>Y 63 [a,h,i,d,(.rows [[j,k,l,m]]),e,f,g])) (ms [a] (w4 fun h i j k=>O0 [a,h,i,d,nS,e,f,nS,nS,nS,g,e0,nS,nS,nS,i0,j,k])))) (mz [a,b,c,bf] (O 1 [a,b,c,d,nS,e,f,nS,nS,nS,g,e0,nS,nS,nS,i0]))
def g32ab4b(a b c d e f g h:PV):T:=D 95 [a,b,c] 0 0 (mz [a,b,c,bt] (D 159 [a,b,c] 0 1 (ms [a] (w6 fun i j k l m n=>Y 64 [a,i,j,d,(.rows [[k,l,m,n]]),e,f,g,h])) (ms [a] (w4 fun i j k l=>O0 [a,i,j,d,nS,e,f,g,nS,nS,h,e0,nS,nS,nS,i0,k,l])))) (mz [a,b,c,bf] (O 1 [a,b,c,d,nS,e,f,g,nS,nS,h,e0,nS,nS,nS,i0]))
def g32ab4c(a b c d e f g h:PV):T:=D 95 [a,b,c] 0 0 (mz [a,b,c,bt] (D 159 [a,b,c] 0 1 (ms [a] (w6 fun i j k l m n=>Y 65 [a,i,j,d,(.rows [[k,l,m,n]]),e,f,g,h])) (ms [a] (w4 fun i j k l=>O 2 [a,i,j,d,nS,e,f,nS,g,nS,h,e0,nS,nS,nS,i0,k,l])))) (mz [a,b,c,bf] (O 3 [a,b,c,d,nS,e,f,nS,g,nS,h,e0,nS,nS,nS,i0]))
def g32ab4d(a b c d e f g h i:PV):T:=D 95 [a,b,c] 0 0 (mz [a,b,c,bt] (D 159 [a,b,c] 0 1 (ms [a] (w6 fun j k l m n o=>Y 66 [a,j,k,d,(.rows [[l,m,n,o]]),e,f,g,h,i])) (ms [a] (w4 fun j k l m=>O0 [a,j,k,d,nS,e,f,g,h,nS,i,e0,nS,nS,nS,i0,l,m])))) (mz [a,b,c,bf] (O 1 [a,b,c,d,nS,e,f,g,h,nS,i,e0,nS,nS,nS,i0]))
def g32ab4e(a b c d e f g h:PV):T:=D 95 [a,b,c] 0 0 (mz [a,b,c,bt] (D 159 [a,b,c] 0 1 (ms [a] (w6 fun i j k l m n=>P 25 e (.rows [[k,l,m,n]]) fun o=>Y 63 [a,i,j,d,o,f,g,h])) (ms [a] (w4 fun i j k l=>O 2 [a,i,j,d,e,f,g,nS,nS,nS,h,e0,nS,nS,nS,i0,k,l])))) (mz [a,b,c,bf] (O 3 [a,b,c,d,e,f,g,nS,nS,nS,h,e0,nS,nS,nS,i0]))
def g32ab4f(a b c d e f g h i:PV):T:=D 95 [a,b,c] 0 0 (mz [a,b,c,bt] (D 159 [a,b,c] 0 1 (ms [a] (w6 fun j k l m n o=>P 25 e (.rows [[l,m,n,o]]) fun p=>Y 64 [a,j,k,d,p,f,g,h,i])) (ms [a] (w4 fun j k l m=>O 4 [a,j,k,d,e,f,g,h,nS,nS,i,e0,nS,nS,nS,i0,l,m])))) (mz [a,b,c,bf] (O 5 [a,b,c,d,e,f,g,h,nS,nS,i,e0,nS,nS,nS,i0]))
def g32ab4g(a b c d e f g h i:PV):T:=D 95 [a,b,c] 0 0 (mz [a,b,c,bt] (D 159 [a,b,c] 0 1 (ms [a] (w6 fun j k l m n o=>P 25 e (.rows [[l,m,n,o]]) fun p=>Y 65 [a,j,k,d,p,f,g,h,i])) (ms [a] (w4 fun j k l m=>O 6 [a,j,k,d,e,f,g,nS,h,nS,i,e0,nS,nS,nS,i0,l,m])))) (mz [a,b,c,bf] (O 7 [a,b,c,d,e,f,g,nS,h,nS,i,e0,nS,nS,nS,i0]))
def g32ab4h(a b c d e f g h i j:PV):T:=D 95 [a,b,c] 0 0 (mz [a,b,c,bt] (D 159 [a,b,c] 0 1 (ms [a] (w6 fun k l m n o p=>P 25 e (.rows [[m,n,o,p]]) fun q=>Y 66 [a,k,l,d,q,f,g,h,i,j])) (ms [a] (w4 fun k l m n=>O 2 [a,k,l,d,e,f,g,h,i,nS,j,e0,nS,nS,nS,i0,m,n])))) (mz [a,b,c,bf] (O 3 [a,b,c,d,e,f,g,h,i,nS,j,e0,nS,nS,nS,i0]))
def g35a(a b c d:PV):T:=D 91 [a,b,c,d] 0 0 (mz [b,c,d,bt] (C0 86 [b,c,d] (ms [b] (v1 fun e=>ms [d] (w4 fun f g h i=>O0 [b,e,d,f,g,h,i]))))) (mz [b,c,d,bf] (C0 50 [b,c,d] (ms [b,c,d] (w4 fun e f g h=>C0 85 [(iv 110),h,b,c,d] (ms [b,c,d] (w2 fun i j=>O 1 [b,c,d,i,j]))))))
def g33a(a b c:PV):T:=D 40 [i2,a,b,c] 1 0 (ms [a] (v1 fun d=>ms [c] (w4 fun e f g h=>D 40 [i1,a,d,c] 1 0 (ms [a] (v1 fun i=>ms [c] (w4 fun j k l m=>D 51 [z26,a,i,c] 0 0 (ms [a] (v1 fun n=>mz [c,bt] (J (J (C0 158 [a,n,c] (ms [a] (v1 fun o=>mz [c,nS] (D 67 [z27,a,o,c] 0 1 (ms [a] (v1 fun p=>ms [c] (w4 fun q r s t=>J (J (D 69 [a,p,c,f,k,h] 0 4 (ms [a] (v2 fun u v=>mz [f,k,nS,nS,nS,h,e0,e0,nS,nS,nS,i0] (O0 [a,u,v,f,k,nS,nS,nS,h]))) (ms [a] (v2 fun u v=>ms [f,k,nS,nS] (v1 fun w=>mz [h,e0,e0,nS,nS,nS,i0] (O 1 [a,u,v,f,k,nS,nS,w,h]))))) (D 69 [a,p,c,f,k,h] 6 7 (ms [a] (v2 fun u v=>ms [f,k,nS] (v1 fun w=>mz [nS,h,e0,e0,nS,nS,nS,i0] (O 2 [a,u,v,f,k,nS,w,nS,h])))) (ms [a] (v2 fun u v=>ms [f,k,nS] (v2 fun w x=>mz [h,e0,e0,nS,nS,nS,i0] (O 3 [a,u,v,f,k,nS,w,x,h])))))) (J (D 69 [a,p,c,f,k,h] 2 1 (ms [a] (v2 fun u v=>ms [f,k,nS,nS,nS,h,e0,e0,nS,nS,nS,i0] (w2 fun w x=>O 4 [a,u,v,w,x]))) (ms [a] (v2 fun u v=>ms [f,k,nS,nS] (v1 fun w=>ms [h,e0,e0,nS,nS,nS,i0] (w2 fun x y=>O 4 [a,u,v,x,y]))))) (D 69 [a,p,c,f,k,h] 3 5 (ms [a] (v2 fun u v=>ms [f,k,nS] (v1 fun w=>ms [nS,h,e0,e0,nS,nS,nS,i0] (w2 fun x y=>O 4 [a,u,v,x,y])))) (ms [a] (v2 fun u v=>ms [f,k,nS] (v2 fun w x=>ms [h,e0,e0,nS,nS,nS,i0] (w2 fun y z=>O 4 [a,u,v,y,z]))))))))) (ms [a] (v1 fun p=>ms [c] (w2 fun q r=>O 4 [a,p,c,q,r]))))))) (C0 92 [a,n,c] (ms [a] (v1 fun o=>ms [c] (w1 fun p=>D 67 [z27,a,o,c] 0 1 (ms [a] (v1 fun q=>ms [c] (w4 fun r s t u=>J (J (D 70 [a,q,c,f,k,p,h] 0 4 (ms [a] (v2 fun v w=>mz [f,k,p,nS,nS,h,e0,e0,nS,nS,nS,i0] (O 5 [a,v,w,f,k,p,nS,nS,h]))) (ms [a] (v2 fun v w=>ms [f,k,p,nS] (v1 fun x=>mz [h,e0,e0,nS,nS,nS,i0] (O 6 [a,v,w,f,k,p,nS,x,h]))))) (D 70 [a,q,c,f,k,p,h] 6 7 (ms [a] (v2 fun v w=>ms [f,k,p] (v1 fun x=>mz [nS,h,e0,e0,nS,nS,nS,i0] (O 7 [a,v,w,f,k,p,x,nS,h])))) (ms [a] (v2 fun v w=>ms [f,k,p] (v2 fun x y=>mz [h,e0,e0,nS,nS,nS,i0] (O 8 [a,v,w,f,k,p,x,y,h])))))) (J (D 70 [a,q,c,f,k,p,h] 2 1 (ms [a] (v2 fun v w=>ms [f,k,p,nS,nS,h,e0,e0,nS,nS,nS,i0] (w2 fun x y=>O 4 [a,v,w,x,y]))) (ms [a] (v2 fun v w=>ms [f,k,p,nS] (v1 fun x=>ms [h,e0,e0,nS,nS,nS,i0] (w2 fun y z=>O 4 [a,v,w,y,z]))))) (D 70 [a,q,c,f,k,p,h] 3 5 (ms [a] (v2 fun v w=>ms [f,k,p] (v1 fun x=>ms [nS,h,e0,e0,nS,nS,nS,i0] (w2 fun y z=>O 4 [a,v,w,y,z])))) (ms [a] (v2 fun v w=>ms [f,k,p] (v2 fun x y=>ms [h,e0,e0,nS,nS,nS,i0] (w2 fun z a0=>O 4 [a,v,w,z,a0]))))))))) (ms [a] (v1 fun q=>ms [c] (w2 fun r s=>O 4 [a,q,c,r,s])))))))) (C 158 [a,n,c] 1 (ms [a] (v1 fun o=>ms [c] (w2 fun p q=>O 4 [a,o,c,p,q]))))))) (ms [a] (v1 fun n=>mz [c,bf] (D 67 [z27,a,n,c] 0 1 (ms [a] (v1 fun o=>ms [c] (w4 fun p q r s=>J (J (D 69 [a,o,c,f,k,h] 0 4 (ms [a] (v2 fun t u=>mz [f,k,nS,nS,nS,h,e0,e0,nS,nS,nS,i0] (O0 [a,t,u,f,k,nS,nS,nS,h]))) (ms [a] (v2 fun t u=>ms [f,k,nS,nS] (v1 fun v=>mz [h,e0,e0,nS,nS,nS,i0] (O 1 [a,t,u,f,k,nS,nS,v,h]))))) (D 69 [a,o,c,f,k,h] 6 7 (ms [a] (v2 fun t u=>ms [f,k,nS] (v1 fun v=>mz [nS,h,e0,e0,nS,nS,nS,i0] (O 2 [a,t,u,f,k,nS,v,nS,h])))) (ms [a] (v2 fun t u=>ms [f,k,nS] (v2 fun v w=>mz [h,e0,e0,nS,nS,nS,i0] (O 3 [a,t,u,f,k,nS,v,w,h])))))) (J (D 69 [a,o,c,f,k,h] 2 1 (ms [a] (v2 fun t u=>ms [f,k,nS,nS,nS,h,e0,e0,nS,nS,nS,i0] (w2 fun v w=>O 4 [a,t,u,v,w]))) (ms [a] (v2 fun t u=>ms [f,k,nS,nS] (v1 fun v=>ms [h,e0,e0,nS,nS,nS,i0] (w2 fun w x=>O 4 [a,t,u,w,x]))))) (D 69 [a,o,c,f,k,h] 3 5 (ms [a] (v2 fun t u=>ms [f,k,nS] (v1 fun v=>ms [nS,h,e0,e0,nS,nS,nS,i0] (w2 fun w x=>O 4 [a,t,u,w,x])))) (ms [a] (v2 fun t u=>ms [f,k,nS] (v2 fun v w=>ms [h,e0,e0,nS,nS,nS,i0] (w2 fun x y=>O 4 [a,t,u,x,y]))))))))) (ms [a] (v1 fun o=>ms [c] (w2 fun p q=>O 4 [a,o,c,p,q]))))))))) (ms [a] (v1 fun i=>ms [c] (w2 fun j k=>O 4 [a,i,c,j,k])))))) (ms [a] (v1 fun d=>ms [c] (w2 fun e f=>O 4 [a,d,c,e,f])))
def g33ab0a(a b c d e f:PV):T:=D 51 [z28,a,b,c] 0 0 (ms [a] (v1 fun g=>mz [c,bt] (O0 [a,g,c,d,e,nS,nS,nS,f,e0,e0,nS,nS,nS,i0]))) (ms [a] (v1 fun g=>mz [c,bf] (D 51 [z20,a,g,c] 0 0 (ms [a] (v1 fun h=>mz [c,bt] (D 155 [a,h,c] 0 1 (ms [a] (w15 fun i j k l m n o p q r s t u v w=>D 67 [z17,a,i,j] 0 1 (ms [a] (v1 fun x=>ms [j] (w4 fun y z a0 b0=>Y 71 [a,x,j,d,e,(.rows [[k,l,m,n,o,p,q,r,s,t,u,v,w]]),f]))) (ms [a] (v1 fun x=>ms [j] (w2 fun y z=>O 1 [a,x,j,d,e,nS,nS,(.rows [[k,l,m,n,o,p,q,r,s,t,u,v,w]]),f,e0,e0,nS,nS,nS,i0,y,z]))))) (ms [a] (w4 fun i j k l=>O 2 [a,i,j,d,e,nS,nS,nS,f,e0,e0,nS,nS,nS,i0,k,l]))))) (ms [a] (v1 fun h=>mz [c,bf] (D 97 [a,h,c] 0 1 (ms [a] (v1 fun i=>ms [c] (w4 fun j k l m=>D 67 [z29,a,i,c] 0 1 (ms [a] (v1 fun n=>ms [c] (w4 fun o p q r=>D 160 [a,n,c] 0 1 (ms [a] (w6 fun s t u v w x=>D 67 [z17,a,s,t] 0 1 (ms [a] (v1 fun y=>ms [t] (w4 fun z a0 b0 c0=>Y 72 [a,y,t,d,e,(.rows [[k,u,v,w,x,m]]),f]))) (ms [a] (v1 fun y=>ms [t] (w2 fun z a0=>O 3 [a,y,t,d,e,nS,(.rows [[k,u,v,w,x,m]]),nS,f,e0,e0,nS,nS,nS,i0,z,a0]))))) (ms [a] (w4 fun s t u v=>O 2 [a,s,t,d,e,nS,nS,nS,f,e0,e0,nS,nS,nS,i0,u,v]))))) (ms [a] (v1 fun n=>ms [c] (w2 fun o p=>O 2 [a,n,c,d,e,nS,nS,nS,f,e0,e0,nS,nS,nS,i0,o,p])))))) (ms [a] (v1 fun i=>ms [c] (w2 fun j k=>O 2 [a,i,c,d,e,nS,nS,nS,f,e0,e0,nS,nS,nS,i0,j,k])))))))))
def g33ab0b(a b c d e f g:PV):T:=D 51 [z28,a,b,c] 0 0 (ms [a] (v1 fun h=>mz [c,bt] (O0 [a,h,c,d,e,f,nS,nS,g,e0,e0,nS,nS,nS,i0]))) (ms [a] (v1 fun h=>mz [c,bf] (D 51 [z20,a,h,c] 0 0 (ms [a] (v1 fun i=>mz [c,bt] (D 155 [a,i,c] 0 1 (ms [a] (w15 fun j k l m n o p q r s t u v w x=>D 67 [z17,a,j,k] 0 1 (ms [a] (v1 fun y=>ms [k] (w4 fun z a0 b0 c0=>Y 73 [a,y,k,d,e,f,(.rows [[l,m,n,o,p,q,r,s,t,u,v,w,x]]),g]))) (ms [a] (v1 fun y=>ms [k] (w2 fun z a0=>O 1 [a,y,k,d,e,f,nS,(.rows [[l,m,n,o,p,q,r,s,t,u,v,w,x]]),g,e0,e0,nS,nS,nS,i0,z,a0]))))) (ms [a] (w4 fun j k l m=>O 2 [a,j,k,d,e,f,nS,nS,g,e0,e0,nS,nS,nS,i0,l,m]))))) (ms [a] (v1 fun i=>mz [c,bf] (D 97 [a,i,c] 0 1 (ms [a] (v1 fun j=>ms [c] (w4 fun k l m n=>D 67 [z29,a,j,c] 0 1 (ms [a] (v1 fun o=>ms [c] (w4 fun p q r s=>D 160 [a,o,c] 0 1 (ms [a] (w6 fun t u v w x y=>D 67 [z17,a,t,u] 0 1 (ms [a] (v1 fun z=>ms [u] (w4 fun a0 b0 c0 d0=>Y 74 [a,z,u,d,e,f,(.rows [[l,v,w,x,y,n]]),g]))) (ms [a] (v1 fun z=>ms [u] (w2 fun a0 b0=>O 3 [a,z,u,d,e,f,(.rows [[l,v,w,x,y,n]]),nS,g,e0,e0,nS,nS,nS,i0,a0,b0]))))) (ms [a] (w4 fun t u v w=>O 2 [a,t,u,d,e,f,nS,nS,g,e0,e0,nS,nS,nS,i0,v,w]))))) (ms [a] (v1 fun o=>ms [c] (w2 fun p q=>O 2 [a,o,c,d,e,f,nS,nS,g,e0,e0,nS,nS,nS,i0,p,q])))))) (ms [a] (v1 fun j=>ms [c] (w2 fun k l=>O 2 [a,j,c,d,e,f,nS,nS,g,e0,e0,nS,nS,nS,i0,k,l])))))))))
def g33ab0c(a b c d e f g:PV):T:=D 51 [z28,a,b,c] 0 0 (ms [a] (v1 fun h=>mz [c,bt] (O 4 [a,h,c,d,e,nS,nS,f,g,e0,e0,nS,nS,nS,i0]))) (ms [a] (v1 fun h=>mz [c,bf] (D 51 [z20,a,h,c] 0 0 (ms [a] (v1 fun i=>mz [c,bt] (D 155 [a,i,c] 0 1 (ms [a] (w15 fun j k l m n o p q r s t u v w x=>P 30 f (.rows [[l,m,n,o,p,q,r,s,t,u,v,w,x]]) fun y=>D 67 [z17,a,j,k] 0 1 (ms [a] (v1 fun z=>ms [k] (w4 fun a0 b0 c0 d0=>Y 71 [a,z,k,d,e,y,g]))) (ms [a] (v1 fun z=>ms [k] (w2 fun a0 b0=>O 1 [a,z,k,d,e,nS,nS,y,g,e0,e0,nS,nS,nS,i0,a0,b0]))))) (ms [a] (w4 fun j k l m=>O 1 [a,j,k,d,e,nS,nS,f,g,e0,e0,nS,nS,nS,i0,l,m]))))) (ms [a] (v1 fun i=>mz [c,bf] (D 97 [a,i,c] 0 1 (ms [a] (v1 fun j=>ms [c] (w4 fun k l m n=>D 67 [z29,a,j,c] 0 1 (ms [a] (v1 fun o=>ms [c] (w4 fun p q r s=>D 160 [a,o,c] 0 1 (ms [a] (w6 fun t u v w x y=>D 67 [z17,a,t,u] 0 1 (ms [a] (v1 fun z=>ms [u] (w4 fun a0 b0 c0 d0=>Y 75 [a,z,u,d,e,(.rows [[l,v,w,x,y,n]]),f,g]))) (ms [a] (v1 fun z=>ms [u] (w2 fun a0 b0=>O 5 [a,z,u,d,e,nS,(.rows [[l,v,w,x,y,n]]),f,g,e0,e0,nS,nS,nS,i0,a0,b0]))))) (ms [a] (w4 fun t u v w=>O 1 [a,t,u,d,e,nS,nS,f,g,e0,e0,nS,nS,nS,i0,v,w]))))) (ms [a] (v1 fun o=>ms [c] (w2 fun p q=>O 1 [a,o,c,d,e,nS,nS,f,g,e0,e0,nS,nS,nS,i0,p,q])))))) (ms [a] (v1 fun j=>ms [c] (w2 fun k l=>O 1 [a,j,c,d,e,nS,nS,f,g,e0,e0,nS,nS,nS,i0,k,l])))))))))
def g33ab0d(a b c d e f g:PV):T:=D 51 [z28,a,b,c] 0 0 (ms [a] (v1 fun h=>mz [c,bt] (O 6 [a,h,c,d,e,nS,f,nS,g,e0,e0,nS,nS,nS,i0]))) (ms [a] (v1 fun h=>mz [c,bf] (D 51 [z20,a,h,c] 0 0 (ms [a] (v1 fun i=>mz [c,bt] (D 155 [a,i,c] 0 1 (ms [a] (w15 fun j k l m n o p q r s t u v w x=>D 67 [z17,a,j,k] 0 1 (ms [a] (v1 fun y=>ms [k] (w4 fun z a0 b0 c0=>Y 75 [a,y,k,d,e,f,(.rows [[l,m,n,o,p,q,r,s,t,u,v,w,x]]),g]))) (ms [a] (v1 fun y=>ms [k] (w2 fun z a0=>O 5 [a,y,k,d,e,nS,f,(.rows [[l,m,n,o,p,q,r,s,t,u,v,w,x]]),g,e0,e0,nS,nS,nS,i0,z,a0]))))) (ms [a] (w4 fun j k l m=>O 3 [a,j,k,d,e,nS,f,nS,g,e0,e0,nS,nS,nS,i0,l,m]))))) (ms [a] (v1 fun i=>mz [c,bf] (D 97 [a,i,c] 0 1 (ms [a] (v1 fun j=>ms [c] (w4 fun k l m n=>D 67 [z29,a,j,c] 0 1 (ms [a] (v1 fun o=>ms [c] (w4 fun p q r s=>D 160 [a,o,c] 0 1 (ms [a] (w6 fun t u v w x y=>P 61 f (.rows [[l,v,w,x,y,n]]) fun z=>D 67 [z17,a,t,u] 0 1 (ms [a] (v1 fun a0=>ms [u] (w4 fun b0 c0 d0 f0=>Y 72 [a,a0,u,d,e,z,g]))) (ms [a] (v1 fun a0=>ms [u] (w2 fun b0 c0=>O 3 [a,a0,u,d,e,nS,z,nS,g,e0,e0,nS,nS,nS,i0,b0,c0]))))) (ms [a] (w4 fun t u v w=>O 3 [a,t,u,d,e,nS,f,nS,g,e0,e0,nS,nS,nS,i0,v,w]))))) (ms [a] (v1 fun o=>ms [c] (w2 fun p q=>O 3 [a,o,c,d,e,nS,f,nS,g,e0,e0,nS,nS,nS,i0,p,q])))))) (ms [a] (v1 fun j=>ms [c] (w2 fun k l=>O 3 [a,j,c,d,e,nS,f,nS,g,e0,e0,nS,nS,nS,i0,k,l])))))))))
def g33ab0e(a b c d e f g h:PV):T:=D 51 [z28,a,b,c] 0 0 (ms [a] (v1 fun i=>mz [c,bt] (O 4 [a,i,c,d,e,f,nS,g,h,e0,e0,nS,nS,nS,i0]))) (ms [a] (v1 fun i=>mz [c,bf] (D 51 [z20,a,i,c] 0 0 (ms [a] (v1 fun j=>mz [c,bt] (D 155 [a,j,c] 0 1 (ms [a] (w15 fun k l m n o p q r s t u v w x y=>P 30 g (.rows [[m,n,o,p,q,r,s,t,u,v,w,x,y]]) fun z=>D 67 [z17,a,k,l] 0 1 (ms [a] (v1 fun a0=>ms [l] (w4 fun b0 c0 d0 f0=>Y 73 [a,a0,l,d,e,f,z,h]))) (ms [a] (v1 fun a0=>ms [l] (w2 fun b0 c0=>O 1 [a,a0,l,d,e,f,nS,z,h,e0,e0,nS,nS,nS,i0,b0,c0]))))) (ms [a] (w4 fun k l m n=>O 1 [a,k,l,d,e,f,nS,g,h,e0,e0,nS,nS,nS,i0,m,n]))))) (ms [a] (v1 fun j=>mz [c,bf] (D 97 [a,j,c] 0 1 (ms [a] (v1 fun k=>ms [c] (w4 fun l m n o=>D 67 [z29,a,k,c] 0 1 (ms [a] (v1 fun p=>ms [c] (w4 fun q r s t=>D 160 [a,p,c] 0 1 (ms [a] (w6 fun u v w x y z=>D 67 [z17,a,u,v] 0 1 (ms [a] (v1 fun a0=>ms [v] (w4 fun b0 c0 d0 f0=>Y 76 [a,a0,v,d,e,f,(.rows [[m,w,x,y,z,o]]),g,h]))) (ms [a] (v1 fun a0=>ms [v] (w2 fun b0 c0=>O 5 [a,a0,v,d,e,f,(.rows [[m,w,x,y,z,o]]),g,h,e0,e0,nS,nS,nS,i0,b0,c0]))))) (ms [a] (w4 fun u v w x=>O 1 [a,u,v,d,e,f,nS,g,h,e0,e0,nS,nS,nS,i0,w,x]))))) (ms [a] (v1 fun p=>ms [c] (w2 fun q r=>O 1 [a,p,c,d,e,f,nS,g,h,e0,e0,nS,nS,nS,i0,q,r])))))) (ms [a] (v1 fun k=>ms [c] (w2 fun l m=>O 1 [a,k,c,d,e,f,nS,g,h,e0,e0,nS,nS,nS,i0,l,m])))))))))
def g33ab0f(a b c d e f g h:PV):T:=D 51 [z28,a,b,c] 0 0 (ms [a] (v1 fun i=>mz [c,bt] (O 6 [a,i,c,d,e,f,g,nS,h,e0,e0,nS,nS,nS,i0]))) (ms [a] (v1 fun i=>mz [c,bf] (D 51 [z20,a,i,c] 0 0 (ms [a] (v1 fun j=>mz [c,bt] (D 155 [a,j,c] 0 1 (ms [a] (w15 fun k l m n o p q r s t u v w x y=>D 67 [z17,a,k,l] 0 1 (ms [a] (v1 fun z=>ms [l] (w4 fun a0 b0 c0 d0=>Y 76 [a,z,l,d,e,f,g,(.rows [[m,n,o,p,q,r,s,t,u,v,w,x,y]]),h]))) (ms [a] (v1 fun z=>ms [l] (w2 fun a0 b0=>O 5 [a,z,l,d,e,f,g,(.rows [[m,n,o,p,q,r,s,t,u,v,w,x,y]]),h,e0,e0,nS,nS,nS,i0,a0,b0]))))) (ms [a] (w4 fun k l m n=>O 3 [a,k,l,d,e,f,g,nS,h,e0,e0,nS,nS,nS,i0,m,n]))))) (ms [a] (v1 fun j=>mz [c,bf] (D 97 [a,j,c] 0 1 (ms [a] (v1 fun k=>ms [c] (w4 fun l m n o=>D 67 [z29,a,k,c] 0 1 (ms [a] (v1 fun p=>ms [c] (w4 fun q r s t=>D 160 [a,p,c] 0 1 (ms [a] (w6 fun u v w x y z=>P 61 g (.rows [[m,w,x,y,z,o]]) fun a0=>D 67 [z17,a,u,v] 0 1 (ms [a] (v1 fun b0=>ms [v] (w4 fun c0 d0 f0 g0=>Y 74 [a,b0,v,d,e,f,a0,h]))) (ms [a] (v1 fun b0=>ms [v] (w2 fun c0 d0=>O 3 [a,b0,v,d,e,f,a0,nS,h,e0,e0,nS,nS,nS,i0,c0,d0]))))) (ms [a] (w4 fun u v w x=>O 3 [a,u,v,d,e,f,g,nS,h,e0,e0,nS,nS,nS,i0,w,x]))))) (ms [a] (v1 fun p=>ms [c] (w2 fun q r=>O 3 [a,p,c,d,e,f,g,nS,h,e0,e0,nS,nS,nS,i0,q,r])))))) (ms [a] (v1 fun k=>ms [c] (w2 fun l m=>O 3 [a,k,c,d,e,f,g,nS,h,e0,e0,nS,nS,nS,i0,l,m])))))))))
def g33ab0g(a b c d e f g h:PV):T:=D 51 [z28,a,b,c] 0 0 (ms [a] (v1 fun i=>mz [c,bt] (O 7 [a,i,c,d,e,nS,f,g,h,e0,e0,nS,nS,nS,i0]))) (ms [a] (v1 fun i=>mz [c,bf] (D 51 [z20,a,i,c] 0 0 (ms [a] (v1 fun j=>mz [c,bt] (D 155 [a,j,c] 0 1 (ms [a] (w15 fun k l m n o p q r s t u v w x y=>P 30 g (.rows [[m,n,o,p,q,r,s,t,u,v,w,x,y]]) fun z=>D 67 [z17,a,k,l] 0 1 (ms [a] (v1 fun a0=>ms [l] (w4 fun b0 c0 d0 f0=>Y 75 [a,a0,l,d,e,f,z,h]))) (ms [a] (v1 fun a0=>ms [l] (w2 fun b0 c0=>O 5 [a,a0,l,d,e,nS,f,z,h,e0,e0,nS,nS,nS,i0,b0,c0]))))) (ms [a] (w4 fun k l m n=>O 5 [a,k,l,d,e,nS,f,g,h,e0,e0,nS,nS,nS,i0,m,n]))))) (ms [a] (v1 fun j=>mz [c,bf] (D 97 [a,j,c] 0 1 (ms [a] (v1 fun k=>ms [c] (w4 fun l m n o=>D 67 [z29,a,k,c] 0 1 (ms [a] (v1 fun p=>ms [c] (w4 fun q r s t=>D 160 [a,p,c] 0 1 (ms [a] (w6 fun u v w x y z=>P 61 f (.rows [[m,w,x,y,z,o]]) fun a0=>D 67 [z17,a,u,v] 0 1 (ms [a] (v1 fun b0=>ms [v] (w4 fun c0 d0 f0 g0=>Y 75 [a,b0,v,d,e,a0,g,h]))) (ms [a] (v1 fun b0=>ms [v] (w2 fun c0 d0=>O 5 [a,b0,v,d,e,nS,a0,g,h,e0,e0,nS,nS,nS,i0,c0,d0]))))) (ms [a] (w4 fun u v w x=>O 5 [a,u,v,d,e,nS,f,g,h,e0,e0,nS,nS,nS,i0,w,x]))))) (ms [a] (v1 fun p=>ms [c] (w2 fun q r=>O 5 [a,p,c,d,e,nS,f,g,h,e0,e0,nS,nS,nS,i0,q,r])))))) (ms [a] (v1 fun k=>ms [c] (w2 fun l m=>O 5 [a,k,c,d,e,nS,f,g,h,e0,e0,nS,nS,nS,i0,l,m])))))))))
def g33ab0h(a b c d e f g h i:PV):T:=D 51 [z28,a,b,c] 0 0 (ms [a] (v1 fun j=>mz [c,bt] (O 7 [a,j,c,d,e,f,g,h,i,e0,e0,nS,nS,nS,i0]))) (ms [a] (v1 fun j=>mz [c,bf] (D 51 [z20,a,j,c] 0 0 (ms [a] (v1 fun k=>mz [c,bt] (D 155 [a,k,c] 0 1 (ms [a] (w15 fun l m n o p q r s t u v w x y z=>P 30 h (.rows [[n,o,p,q,r,s,t,u,v,w,x,y,z]]) fun a0=>D 67 [z17,a,l,m] 0 1 (ms [a] (v1 fun b0=>ms [m] (w4 fun c0 d0 f0 g0=>Y 76 [a,b0,m,d,e,f,g,a0,i]))) (ms [a] (v1 fun b0=>ms [m] (w2 fun c0 d0=>O 5 [a,b0,m,d,e,f,g,a0,i,e0,e0,nS,nS,nS,i0,c0,d0]))))) (ms [a] (w4 fun l m n o=>O 5 [a,l,m,d,e,f,g,h,i,e0,e0,nS,nS,nS,i0,n,o]))))) (ms [a] (v1 fun k=>mz [c,bf] (D 97 [a,k,c] 0 1 (ms [a] (v1 fun l=>ms [c] (w4 fun m n o p=>D 67 [z29,a,l,c] 0 1 (ms [a] (v1 fun q=>ms [c] (w4 fun r s t u=>D 160 [a,q,c] 0 1 (ms [a] (w6 fun v w x y z a0=>P 61 g (.rows [[n,x,y,z,a0,p]]) fun b0=>D 67 [z17,a,v,w] 0 1 (ms [a] (v1 fun c0=>ms [w] (w4 fun d0 f0 g0 h0=>Y 76 [a,c0,w,d,e,f,b0,h,i]))) (ms [a] (v1 fun c0=>ms [w] (w2 fun d0 f0=>O 5 [a,c0,w,d,e,f,b0,h,i,e0,e0,nS,nS,nS,i0,d0,f0]))))) (ms [a] (w4 fun v w x y=>O 5 [a,v,w,d,e,f,g,h,i,e0,e0,nS,nS,nS,i0,x,y]))))) (ms [a] (v1 fun q=>ms [c] (w2 fun r s=>O 5 [a,q,c,d,e,f,g,h,i,e0,e0,nS,nS,nS,i0,r,s])))))) (ms [a] (v1 fun l=>ms [c] (w2 fun m n=>O 5 [a,l,c,d,e,f,g,h,i,e0,e0,nS,nS,nS,i0,m,n])))))))))
def g34a(a b c:PV):T:=D 40 [i2,a,b,c] 1 0 (ms [a] (v1 fun d=>ms [c] (w4 fun e f g h=>D 159 [a,d,c] 0 1 (ms [a] (w6 fun i j k l m n=>D 51 [z26,a,i,j] 0 0 (ms [a] (v1 fun o=>mz [j,bt] (J (C0 78 [a,o,j,f,k,l,m,n,h] (ms [a] (v1 fun p=>ms [j,f,k,l,m,n] (v1 fun q=>mz [nS,h,e0,i0,e0,i0,nS,nS,nS,i0] (D 67 [z27,a,p,j] 0 1 (ms [a] (v1 fun r=>ms [j] (w4 fun s t u v=>J (D 81 [a,r,j,f,k,l,m,n,q,h] 0 3 (ms [a] (v2 fun w x=>mz [f,k,l,m,n,q,nS,h,e0,i0,e0,i0,nS,nS,nS,i0] (O 3 [a,w,x,f,k,l,m,n,q,nS,h]))) (ms [a] (v2 fun w x=>ms [f,k,l,m,n,q] (v1 fun y=>mz [h,e0,i0,e0,i0,nS,nS,nS,i0] (O 4 [a,w,x,f,k,l,m,n,q,y,h]))))) (D 81 [a,r,j,f,k,l,m,n,q,h] 2 1 (ms [a] (v2 fun w x=>ms [f,k,l,m,n,q,nS,h,e0,i0,e0,i0,nS,nS,nS,i0] (w2 fun y z=>O 2 [a,w,x,y,z]))) (ms [a] (v2 fun w x=>ms [f,k,l,m,n,q] (v1 fun y=>ms [h,e0,i0,e0,i0,nS,nS,nS,i0] (w2 fun z a0=>O 2 [a,w,x,z,a0])))))))) (ms [a] (v1 fun r=>ms [j] (w2 fun s t=>O 2 [a,r,j,s,t])))))))) (D 78 [a,o,j,f,k,l,m,n,h] 1 2 (ms [a] (v1 fun p=>ms [j,f,k,l,m,n,nS,nS,h,e0,i0,e0,i0,nS,nS,nS,i0] (w2 fun q r=>O 2 [a,p,j,q,r]))) (ms [a] (v1 fun p=>ms [j,f,k,l,m,n] (v1 fun q=>ms [nS,h,e0,i0,e0,i0,nS,nS,nS,i0] (w2 fun r s=>O 2 [a,p,j,r,s])))))))) (ms [a] (v1 fun o=>mz [j,bf] (D 67 [z27,a,o,j] 0 1 (ms [a] (v1 fun p=>ms [j] (w4 fun q r s t=>J (D 80 [a,p,j,f,k,l,m,n,h] 0 3 (ms [a] (v2 fun u v=>mz [f,k,l,m,n,nS,nS,h,e0,i0,e0,i0,nS,nS,nS,i0] (O0 [a,u,v,f,k,l,m,n,nS,nS,h]))) (ms [a] (v2 fun u v=>ms [f,k,l,m,n,nS] (v1 fun w=>mz [h,e0,i0,e0,i0,nS,nS,nS,i0] (O 1 [a,u,v,f,k,l,m,n,nS,w,h]))))) (D 80 [a,p,j,f,k,l,m,n,h] 2 1 (ms [a] (v2 fun u v=>ms [f,k,l,m,n,nS,nS,h,e0,i0,e0,i0,nS,nS,nS,i0] (w2 fun w x=>O 2 [a,u,v,w,x]))) (ms [a] (v2 fun u v=>ms [f,k,l,m,n,nS] (v1 fun w=>ms [h,e0,i0,e0,i0,nS,nS,nS,i0] (w2 fun x y=>O 2 [a,u,v,x,y])))))))) (ms [a] (v1 fun p=>ms [j] (w2 fun q r=>O 2 [a,p,j,q,r])))))))) (ms [a] (w4 fun i j k l=>O 2 [a,i,j,k,l]))))) (ms [a] (v1 fun d=>ms [c] (w2 fun e f=>O 2 [a,d,c,e,f])))
def g34ab0a(a b c d e f g h i:PV):T:=D 40 [i2,a,b,c] 1 0 (ms [a] (v1 fun j=>ms [c] (w4 fun k l m n=>D 40 [i1,a,j,c] 1 0 (ms [a] (v1 fun o=>ms [c] (w4 fun p q r s=>D 51 [z30,a,o,c] 0 0 (ms [a] (v1 fun t=>mz [c,bt] (Y 79 [a,t,c,d,e,f,g,h,(.rows [[l,i1,q,i0,nS]]),i]))) (ms [a] (v1 fun t=>mz [c,bf] (O0 [a,t,c,d,e,f,g,h,(.rows [[l,i1,q,i0,nS]]),nS,i,e0,i0,e0,i0,nS,nS,nS,i0])))))) (ms [a] (v1 fun o=>ms [c] (w2 fun p q=>O 1 [a,o,c,d,e,f,g,h,nS,nS,i,e0,i0,e0,i0,nS,nS,nS,i0,p,q])))))) (ms [a] (v1 fun j=>ms [c] (w2 fun k l=>O 1 [a,j,c,d,e,f,g,h,nS,nS,i,e0,i0,e0,i0,nS,nS,nS,i0,k,l])))
def g34ab0b(a b c d e f g h i j:PV):T:=D 40 [i2,a,b,c] 1 0 (ms [a] (v1 fun k=>ms [c] (w4 fun l m n o=>D 40 [i1,a,k,c] 1 0 (ms [a] (v1 fun p=>ms [c] (w4 fun q r s t=>P 65 i (.rows [[m,i1,r,i0,nS]]) fun u=>D 51 [z30,a,p,c] 0 0 (ms [a] (v1 fun v=>mz [c,bt] (Y 79 [a,v,c,d,e,f,g,h,u,j]))) (ms [a] (v1 fun v=>mz [c,bf] (O0 [a,v,c,d,e,f,g,h,u,nS,j,e0,i0,e0,i0,nS,nS,nS,i0])))))) (ms [a] (v1 fun p=>ms [c] (w2 fun q r=>O 2 [a,p,c,d,e,f,g,h,i,nS,j,e0,i0,e0,i0,nS,nS,nS,i0,q,r])))))) (ms [a] (v1 fun k=>ms [c] (w2 fun l m=>O 2 [a,k,c,d,e,f,g,h,i,nS,j,e0,i0,e0,i0,nS,nS,nS,i0,l,m])))
def g34ab2a(a b c d e f g h i:PV):T:=D 51 [z28,a,b,c] 0 0 (ms [a] (v1 fun j=>mz [c,bt] (O0 [a,j,c,d,e,f,g,h,nS,nS,i,e0,i0,e0,i0,nS,nS,nS,i0]))) (ms [a] (v1 fun j=>mz [c,bf] (D 67 [z20,a,j,c] 0 1 (ms [a] (v1 fun k=>ms [c] (w4 fun l m n o=>D 155 [a,k,c] 0 1 (ms [a] (w15 fun p q r s t u v w x y z a0 b0 c0 d0=>D 67 [z17,a,p,q] 0 1 (ms [a] (v1 fun f0=>ms [q] (w4 fun g0 h0 j0 k0=>Y 82 [a,f0,q,d,e,f,g,h,(.rows [[r,s,t,u,v,w,x,y,z,a0,b0,c0,d0]]),i]))) (ms [a] (v1 fun f0=>ms [q] (w2 fun g0 h0=>O 1 [a,f0,q,d,e,f,g,h,nS,(.rows [[r,s,t,u,v,w,x,y,z,a0,b0,c0,d0]]),i,e0,i0,e0,i0,nS,nS,nS,i0,g0,h0]))))) (ms [a] (w4 fun p q r s=>O 2 [a,p,q,d,e,f,g,h,nS,nS,i,e0,i0,e0,i0,nS,nS,nS,i0,r,s]))))) (ms [a] (v1 fun k=>ms [c] (w2 fun l m=>O 2 [a,k,c,d,e,f,g,h,nS,nS,i,e0,i0,e0,i0,nS,nS,nS,i0,l,m]))))))
def g34ab2b(a b c d e f g h i j:PV):T:=D 51 [z28,a,b,c] 0 0 (ms [a] (v1 fun k=>mz [c,bt] (O0 [a,k,c,d,e,f,g,h,i,nS,j,e0,i0,e0,i0,nS,nS,nS,i0]))) (ms [a] (v1 fun k=>mz [c,bf] (D 67 [z20,a,k,c] 0 1 (ms [a] (v1 fun l=>ms [c] (w4 fun m n o p=>D 155 [a,l,c] 0 1 (ms [a] (w15 fun q r s t u v w x y z a0 b0 c0 d0 f0=>D 67 [z17,a,q,r] 0 1 (ms [a] (v1 fun g0=>ms [r] (w4 fun h0 j0 k0 l0=>Y 83 [a,g0,r,d,e,f,g,h,i,(.rows [[s,t,u,v,w,x,y,z,a0,b0,c0,d0,f0]]),j]))) (ms [a] (v1 fun g0=>ms [r] (w2 fun h0 j0=>O 1 [a,g0,r,d,e,f,g,h,i,(.rows [[s,t,u,v,w,x,y,z,a0,b0,c0,d0,f0]]),j,e0,i0,e0,i0,nS,nS,nS,i0,h0,j0]))))) (ms [a] (w4 fun q r s t=>O 2 [a,q,r,d,e,f,g,h,i,nS,j,e0,i0,e0,i0,nS,nS,nS,i0,s,t]))))) (ms [a] (v1 fun l=>ms [c] (w2 fun m n=>O 2 [a,l,c,d,e,f,g,h,i,nS,j,e0,i0,e0,i0,nS,nS,nS,i0,m,n]))))))
def g34ab2c(a b c d e f g h i j:PV):T:=D 51 [z28,a,b,c] 0 0 (ms [a] (v1 fun k=>mz [c,bt] (O 3 [a,k,c,d,e,f,g,h,nS,i,j,e0,i0,e0,i0,nS,nS,nS,i0]))) (ms [a] (v1 fun k=>mz [c,bf] (D 67 [z20,a,k,c] 0 1 (ms [a] (v1 fun l=>ms [c] (w4 fun m n o p=>D 155 [a,l,c] 0 1 (ms [a] (w15 fun q r s t u v w x y z a0 b0 c0 d0 f0=>P 30 i (.rows [[s,t,u,v,w,x,y,z,a0,b0,c0,d0,f0]]) fun g0=>D 67 [z17,a,q,r] 0 1 (ms [a] (v1 fun h0=>ms [r] (w4 fun j0 k0 l0 m0=>Y 82 [a,h0,r,d,e,f,g,h,g0,j]))) (ms [a] (v1 fun h0=>ms [r] (w2 fun j0 k0=>O 1 [a,h0,r,d,e,f,g,h,nS,g0,j,e0,i0,e0,i0,nS,nS,nS,i0,j0,k0]))))) (ms [a] (w4 fun q r s t=>O 1 [a,q,r,d,e,f,g,h,nS,i,j,e0,i0,e0,i0,nS,nS,nS,i0,s,t]))))) (ms [a] (v1 fun l=>ms [c] (w2 fun m n=>O 1 [a,l,c,d,e,f,g,h,nS,i,j,e0,i0,e0,i0,nS,nS,nS,i0,m,n]))))))
def g34ab2d(a b c d e f g h i j k:PV):T:=D 51 [z28,a,b,c] 0 0 (ms [a] (v1 fun l=>mz [c,bt] (O 3 [a,l,c,d,e,f,g,h,i,j,k,e0,i0,e0,i0,nS,nS,nS,i0]))) (ms [a] (v1 fun l=>mz [c,bf] (D 67 [z20,a,l,c] 0 1 (ms [a] (v1 fun m=>ms [c] (w4 fun n o p q=>D 155 [a,m,c] 0 1 (ms [a] (w15 fun r s t u v w x y z a0 b0 c0 d0 f0 g0=>P 30 j (.rows [[t,u,v,w,x,y,z,a0,b0,c0,d0,f0,g0]]) fun h0=>D 67 [z17,a,r,s] 0 1 (ms [a] (v1 fun j0=>ms [s] (w4 fun k0 l0 m0 n0=>Y 83 [a,j0,s,d,e,f,g,h,i,h0,k]))) (ms [a] (v1 fun j0=>ms [s] (w2 fun k0 l0=>O 1 [a,j0,s,d,e,f,g,h,i,h0,k,e0,i0,e0,i0,nS,nS,nS,i0,k0,l0]))))) (ms [a] (w4 fun r s t u=>O 1 [a,r,s,d,e,f,g,h,i,j,k,e0,i0,e0,i0,nS,nS,nS,i0,t,u]))))) (ms [a] (v1 fun m=>ms [c] (w2 fun n o=>O 1 [a,m,c,d,e,f,g,h,i,j,k,e0,i0,e0,i0,nS,nS,nS,i0,n,o]))))))
def g36a(a b c:PV):T:=D 97 [a,b,c] 0 1 (ms [a] (v1 fun d=>ms [c] (w4 fun e f g h=>D 67 [z21,a,d,c] 0 1 (ms [a] (v1 fun i=>ms [c] (w4 fun j k l m=>D 151 [a,i,c] 0 1 (ms [a] (w13 fun n o p q r s t u v w x y z=>O0 [a,n,o,f,p,q,r,s,t,u,v,w,x,y,z,h])) (ms [a] (w4 fun n o p q=>O 1 [a,n,o,p,q]))))) (ms [a] (v1 fun i=>ms [c] (w2 fun j k=>O 1 [a,i,c,j,k])))))) (ms [a] (v1 fun d=>ms [c] (w2 fun e f=>O 1 [a,d,c,e,f])))
def g28a(a b c d e:PV):T:=O0 [c,d,e,a,b]
def g26a(a b c:PV):T:=C0 50 [a,b,c] (ms [a,b,c] (w4 fun d e f g=>A3 b i1 fun h=>O0 [a,h,c,d,e,f,g]))
def g23a(a b c:PV):T:=A3 c i1 fun d=>G3 d (iv 300) (C0 50 [a,b,d] (ms [a,b,d] (w4 fun e f g h=>C0 85 [(iv 111),h,a,b,d] (ms [a,b,d] (w2 fun i j=>O0 [a,b,d,i,j]))))) (O 1 [a,b,d])
def g24a(a b c:PV):T:=C0 50 [a,b,c] (ms [a,b,c] (w4 fun d e f g=>D 91 [z31,a,b,c] 0 0 (mz [a,b,c,bt] (A3 b i1 fun h=>D 161 [g,a,h,c] 0 1 (ms [a] (w13 fun i j k l m n o p q r s t u=>O0 [a,i,j,k,l,m,n,o,p,q,r,s,t,u])) (ms [a] (w4 fun i j k l=>O 1 [a,i,j,k,l])))) (mz [a,b,c,bf] (D 91 [z32,a,b,c] 0 0 (mz [a,b,c,bt] (D 162 [a,b,c] 0 1 (ms [a] (w13 fun h i j k l m n o p q r s t=>O0 [a,h,i,j,k,l,m,n,o,p,q,r,s,t])) (ms [a] (w4 fun h i j k=>O 1 [a,h,i,j,k])))) (mz [a,b,c,bf] (D 91 [z33,a,b,c] 0 0 (mz [a,b,c,bt] (A3 b i1 fun h=>D 151 [a,h,c] 0 1 (ms [a] (w13 fun i j k l m n o p q r s t u=>D 67 [z34,a,i,j] 0 1 (ms [a] (v1 fun v=>ms [j] (w4 fun w x y z=>D 151 [a,v,j] 0 1 (ms [a] (w13 fun a0 b0 c0 d0 f0 g0 h0 j0 k0 l0 m0 n0 o0=>D 67 [z35,a,a0,b0] 0 1 (ms [a] (v1 fun p0=>ms [b0] (w4 fun q0 r0 s0 t0=>D 151 [a,p0,b0] 0 1 (ms [a] (w13 fun u0 v0 w0 x0 y0 a1 b1 c1 d1 e1 f1 g1 h1=>O 2 [a,u0,v0,i9,e0,i0,i0,e0,i0,nS,(.rows [[k,l,m,n,o,p,q,r,s,t,u],[c0,d0,f0,g0,h0,j0,k0,l0,m0,n0,o0],[w0,x0,y0,a1,b1,c1,d1,e1,f1,g1,h1]]),nS,nS,g])) (ms [a] (w4 fun u0 v0 w0 x0=>O 1 [a,u0,v0,w0,x0]))))) (ms [a] (v1 fun p0=>ms [b0] (w2 fun q0 r0=>O 1 [a,p0,b0,q0,r0]))))) (ms [a] (w4 fun a0 b0 c0 d0=>O 1 [a,a0,b0,c0,d0]))))) (ms [a] (v1 fun v=>ms [j] (w2 fun w x=>O 1 [a,v,j,w,x]))))) (ms [a] (w4 fun i j k l=>O 1 [a,i,j,k,l])))) (mz [a,b,c,bf] (D 163 [a,b,c] 0 1 (ms [a] (w13 fun h i j k l m n o p q r s t=>J (D 89 [a,h,i,j,k,l,m,n,o,p,q,r,s,t,d,e,f,g] 1 3 (ms [a] (v13 fun u v w x y z a0 b0 c0 d0 f0 g0 h0=>mz [d,e,f,g,i0,e0,i0,i0,e0,i0,nS,nS,nS,nS,i0] (O0 [a,u,v,w,x,y,z,a0,b0,c0,d0,f0,g0,h0]))) (ms [a] (v13 fun u v w x y z a0 b0 c0 d0 f0 g0 h0=>mz [d,e,f,g,i0,e0,i0,i0,e0,i0,nS,nS,nS,nS,i0] (O 2 [a,u,v,w,x,y,z,a0,b0,c0,d0,f0,g0,h0])))) (D 89 [a,h,i,j,k,l,m,n,o,p,q,r,s,t,d,e,f,g] 0 2 (ms [a] (v13 fun u v w x y z a0 b0 c0 d0 f0 g0 h0=>ms [d,e,f,g,i0,e0,i0,i0,e0,i0,nS,nS,nS,nS,i0] (w2 fun j0 k0=>O 1 [a,u,v,j0,k0]))) (ms [a] (v13 fun u v w x y z a0 b0 c0 d0 f0 g0 h0=>ms [d,e,f,g,i0,e0,i0,i0,e0,i0,nS,nS,nS,nS,i0] (w2 fun j0 k0=>O 1 [a,u,v,j0,k0])))))) (ms [a] (w4 fun h i j k=>O 1 [a,h,i,j,k]))))))))))
def g24ab1a(a b c d e f g h i j k l m n o p q r:PV):T:=D 110 [a,b,c] 0 0 (mz [a,b,c,bt] (D 163 [a,b,c] 0 1 (ms [a] (w13 fun s t u v w x y z a0 b0 c0 d0 f0=>Y 90 [a,s,t,(.rows [[d,e,f,g,h,i,j,k,l,m,n],[u,v,w,x,y,z,a0,b0,c0,d0,f0]]),r,o,p,q,r])) (ms [a] (w4 fun s t u v=>O0 [a,s,t,d,e,f,g,h,i,j,k,l,m,n,o,p,q,r,i0,e0,i0,i0,e0,i0,nS,nS,nS,nS,i0,u,v])))) (mz [a,b,c,bf] (O 1 [a,b,c,d,e,f,g,h,i,j,k,l,m,n,o,p,q,r,i0,e0,i0,i0,e0,i0,nS,nS,nS,nS,i0]))
def g24ab1b(a b c d e f g h i:PV):T:=D 110 [a,b,c] 0 0 (mz [a,b,c,bt] (D 163 [a,b,c] 0 1 (ms [a] (w13 fun j k l m n o p q r s t u v=>Y 90 [a,j,k,(.rows [[i5,e0,i0,i0,e0,i0,nS,d,nS,nS,e],[l,m,n,o,p,q,r,s,t,u,v]]),i,f,g,h,i])) (ms [a] (w4 fun j k l m=>O 2 [a,j,k,i5,e0,i0,i0,e0,i0,nS,d,nS,nS,e,f,g,h,i,i0,e0,i0,i0,e0,i0,nS,nS,nS,nS,i0,l,m])))) (mz [a,b,c,bf] (O 3 [a,b,c,i5,e0,i0,i0,e0,i0,nS,d,nS,nS,e,f,g,h,i,i0,e0,i0,i0,e0,i0,nS,nS,nS,nS,i0]))
def g44a(a b c d:PV):T:=C0 50 [b,c,d] (ms [b,c,d] (w4 fun e f g h=>E3 e i7 (E9 f a (O0 [b,c,d,bt]) (O0 [b,c,d,bf])) (E3 e i6 (E9 f a (O0 [b,c,d,bt]) (O0 [b,c,d,bf])) (O0 [b,c,d,bf]))))
def g52a(a b c:PV):T:=D 40 [i2,a,b,c] 1 0 (ms [a] (v1 fun d=>ms [c] (w4 fun e f g h=>J (D 93 [(.rows [[f]]),a,d,c] 1 3 (ms [a] (v1 fun i=>mz [c,(.rows [[f]])] (O0 [a,i,c,(.rows [[f]])]))) (ms [a] (v1 fun i=>ms [c] (w1 fun j=>O0 [a,i,c,j])))) (D 93 [(.rows [[f]]),a,d,c] 0 2 (ms [a] (v1 fun i=>ms [c] (v2 fun j k=>mz [(.rows [[f]])] (O 1 [a,i,c,j,k])))) (ms [a] (v1 fun i=>ms [c] (w2 fun j k=>O 1 [a,i,c,j,k]))))))) (ms [a] (v1 fun d=>ms [c] (w2 fun e f=>O 1 [a,d,c,e,f])))
def g52ab0a(a b c d:PV):T:=D 51 [z30,b,c,d] 0 0 (ms [b] (v1 fun e=>mz [d,bt] (D 40 [i2,b,e,d] 1 0 (ms [b] (v1 fun f=>ms [d] (w4 fun g h i j=>P 23 a (.rows [[h]]) fun k=>Y 94 [k,b,f,d]))) (ms [b] (v1 fun f=>ms [d] (w2 fun g h=>O0 [b,f,d,g,h,a])))))) (ms [b] (v1 fun e=>mz [d,bf] (O 1 [b,e,d,a])))
def g52ab0b(a b c d:PV):T:=D 51 [z30,b,c,d] 0 0 (ms [b] (v1 fun e=>mz [d,bt] (D 40 [i2,b,e,d] 1 0 (ms [b] (v1 fun f=>ms [d] (w4 fun g h i j=>P 23 a (.rows [[h]]) fun k=>Y 94 [k,b,f,d]))) (ms [b] (v1 fun f=>ms [d] (w2 fun g h=>O 2 [b,f,d,g,h])))))) (ms [b] (v1 fun e=>mz [d,bf] (O 3 [b,e,d,a])))
def g50a(a b c:PV):T:=C0 50 [a,b,c] (ms [a,b,c] (w4 fun d e f g=>E3 d i2 (O0 [a,b,c,bt]) (E3 d i1 (O0 [a,b,c,bt]) (D 91 [z23,a,b,c] 0 0 (mz [a,b,c,bt] (O0 [a,b,c,bt])) (mz [a,b,c,bf] (O0 [a,b,c,bf]))))))
def g51a(a b c:PV):T:=C0 86 [a,b,c] (ms [a] (v1 fun d=>ms [c] (w4 fun e f g h=>E3 e i2 (O0 [a,d,c,i3,f,i0,nS]) (E3 e i1 (O0 [a,d,c,i1,f,i0,nS]) (N3 e i7 (C0 85 [(iv 110),h,a,d,c] (ms [a,d,c] (w2 fun i j=>O 1 [a,d,c,i,j]))) (N9 f z23 (C0 85 [(iv 110),h,a,d,c] (ms [a,d,c] (w2 fun i j=>O 1 [a,d,c,i,j]))) (D 51 [z24,a,d,c] 0 0 (ms [a] (v1 fun i=>mz [c,bt] (O0 [a,i,c,i3,z36,i0,nS]))) (ms [a] (v1 fun i=>mz [c,bf] (D 160 [a,i,c] 0 1 (ms [a] (w6 fun j k l m n o=>D 67 [z24,a,j,k] 0 1 (ms [a] (v1 fun p=>ms [k] (w4 fun q r s t=>O0 [a,p,k,l,m,n,o]))) (ms [a] (v1 fun p=>ms [k] (w2 fun q r=>O 1 [a,p,k,q,r]))))) (ms [a] (w4 fun j k l m=>O 1 [a,j,k,l,m]))))))))))))
def g53a(a b c:PV):T:=D 91 [z23,a,b,c] 0 0 (mz [a,b,c,bt] (A3 b i1 fun d=>D 40 [i5,a,d,c] 1 0 (ms [a] (v1 fun e=>ms [c] (w4 fun f g h i=>D 67 [z24,a,e,c] 0 1 (ms [a] (v1 fun j=>ms [c] (w4 fun k l m n=>O0 [a,j,c,f,g,h,i]))) (ms [a] (v1 fun j=>ms [c] (w2 fun k l=>O 1 [a,j,c,k,l])))))) (ms [a] (v1 fun e=>ms [c] (w2 fun f g=>O 1 [a,e,c,f,g]))))) (mz [a,b,c,bf] (D 40 [i1,a,b,c] 1 0 (ms [a] (v1 fun d=>ms [c] (w4 fun e f g h=>O0 [a,d,c,e,f,g,h]))) (ms [a] (v1 fun d=>ms [c] (w2 fun e f=>O 1 [a,d,c,e,f])))))
def g54a(a b c:PV):T:=D 87 [a,b,c] 1 0 (ms [a,b] (w1 fun d=>D 164 [a,b,d] 0 1 (ms [a] (w6 fun e f g h i j=>D 51 [z37,a,e,f] 0 0 (ms [a] (v1 fun k=>mz [f,bt] (D 160 [a,k,f] 0 1 (ms [a] (w6 fun l m n o p q=>S3 m i1 fun r=>O0 [a,l,r,i3,z37,i0,(.rows [[g,h,i,j],[n,o,p,q]])])) (ms [a] (w4 fun l m n o=>S3 m i1 fun p=>O 1 [a,l,p,n,o]))))) (ms [a] (v1 fun k=>mz [f,bf] (S3 f i1 fun l=>O 2 [a,k,l,g,h,i,j]))))) (ms [a] (w4 fun e f g h=>S3 f i1 fun i=>O 1 [a,e,i,g,h])))) (ms [a,b] (w3 fun d e f=>O 1 [a,b,d,e,f]))
def g45a(a b c d:PV):T:=D 40 [i1,b,c,d] 1 0 (ms [b] (v1 fun e=>ms [d] (w4 fun f g h i=>D 100 [(.rows [[f,g,h,i]]),a,b,e,d] 0 1 (ms [b] (v1 fun j=>mz [d,i0,e0,i0,i0,e0,i0,nS,nS,nS,nS,i0,(.rows [[f,g,h,i]]),a] (D 67 [z37,b,j,d] 0 1 (ms [b] (v1 fun k=>ms [d] (w4 fun l m n o=>D 151 [b,k,d] 0 1 (ms [b] (w13 fun p q r s t u v w x y z a0 b0=>D 102 [i0,(.rows [[f,g,h,i]]),a,r,s,t,u,v,w,x,y,z,a0,b0] 0 1 (v11 fun c0 d0 f0 g0 h0 j0 k0 l0 m0 n0 o0=>mz [i0,e0,i0,i0,e0,i0,nS,nS,nS,nS,i0,a,(.rows [[f,g,h,i]])] (O0 [b,p,q,c0,d0,f0,g0,h0,j0,k0,l0,m0,n0,a])) (v11 fun c0 d0 f0 g0 h0 j0 k0 l0 m0 n0 o0=>mz [i0,e0,i0,i0,e0,i0,nS,nS,nS,nS,i0,a,(.rows [[f,g,h,i]])] (O 4 [b,p,q,c0,d0,f0,g0,h0,j0,k0,l0,m0,n0,a])))) (ms [b] (w4 fun p q r s=>O 16 [b,p,q,r,s]))))) (ms [b] (v1 fun k=>ms [d] (w2 fun l m=>O 16 [b,k,d,l,m])))))) (ms [b] (v1 fun j=>ms [d,i0,e0,i0,i0,e0,i0,nS,nS,nS,nS,i0] (v1 fun k=>mz [a] (D 67 [z37,b,j,d] 0 1 (ms [b] (v1 fun l=>ms [d] (w4 fun m n o p=>D 151 [b,l,d] 0 1 (ms [b] (w13 fun q r s t u v w x y z a0 b0 c0=>L 76 k fun d0=>S3 d0 i1 fun f0=>D 102 [f0,k,a,s,t,u,v,w,x,y,z,a0,b0,c0] 0 1 (v11 fun g0 h0 j0 k0 l0 m0 n0 o0 p0 q0 r0=>mz [i0,e0,i0,i0,e0,i0,nS,nS,nS,nS,i0,a,k] (O0 [b,q,r,g0,h0,j0,k0,l0,m0,n0,o0,p0,q0,a])) (v11 fun g0 h0 j0 k0 l0 m0 n0 o0 p0 q0 r0=>mz [i0,e0,i0,i0,e0,i0,nS,nS,nS,nS,i0,a,k] (O 4 [b,q,r,g0,h0,j0,k0,l0,m0,n0,o0,p0,q0,a])))) (ms [b] (w4 fun q r s t=>O 16 [b,q,r,s,t]))))) (ms [b] (v1 fun l=>ms [d] (w2 fun m n=>O 16 [b,l,d,m,n])))))))))) (ms [b] (v1 fun e=>ms [d] (w2 fun f g=>O 16 [b,e,d,f,g])))
def g45ab0a(a b c d e:PV):T:=C0 50 [c,d,e] (ms [c,d,e] (w4 fun f g h i=>E3 f i1 (C0 86 [c,d,e] (ms [c] (v1 fun j=>ms [e] (w4 fun k l m n=>P 76 a (.rows [[k,l,m,n]]) fun o=>Y 101 [o,b,c,j,e])))) (O0 [c,d,e,i0,e0,i0,i0,e0,i0,nS,nS,nS,nS,i0,a,b])))
def g45ab0b(a b c d e:PV):T:=C0 50 [c,d,e] (ms [c,d,e] (w4 fun f g h i=>E3 f i1 (C0 86 [c,d,e] (ms [c] (v1 fun j=>ms [e] (w4 fun k l m n=>P 76 a (.rows [[k,l,m,n]]) fun o=>Y 101 [o,b,c,j,e])))) (O 1 [c,d,e,i0,e0,i0,i0,e0,i0,nS,nS,nS,nS,i0,a,b])))
def g45ab2a(a b c d e f g h i j k l m n:PV):T:=H3 a i0 (X 76 b a (w4 fun o p q r=>S3 a i1 fun s=>Y 103 [s,b,c,p,(.rows [[d,e,f,g,h,i,j,k,l,m,n]]),r])) (O0 [d,e,f,g,h,i,j,k,l,m,n,i0,e0,i0,i0,e0,i0,nS,nS,nS,nS,i0,c,b])
def g45ab2b(a b c d e f:PV):T:=H3 a i0 (X 76 b a (w4 fun g h i j=>S3 a i1 fun k=>Y 103 [k,b,c,h,(.rows [[i6,d,i0,i0,e0,i0,nS,e,nS,nS,f]]),j])) (O 1 [i6,d,i0,i0,e0,i0,nS,e,nS,nS,f,i0,e0,i0,i0,e0,i0,nS,nS,nS,nS,i0,c,b])
def g46a(a b c:PV):T:=C0 86 [a,b,c] (ms [a] (v1 fun d=>ms [c] (w4 fun e f g h=>D 51 [z38,a,d,c] 0 0 (ms [a] (v1 fun i=>mz [c,bt] (D 155 [a,i,c] 0 1 (ms [a] (w15 fun j k l m n o p q r s t u v w x=>J (D 105 [a,j,k,(.rows [[l,m,n,o,p,q,r,s,t,u,v,w,x]]),h] 1 3 (ms [a] (v2 fun y z=>mz [i7,e0,i1,i0,e0,i0,nS,nS,nS,(.rows [[l,m,n,o,p,q,r,s,t,u,v,w,x]]),h,i0,e0,i0,i0,e0,i0,nS,nS,nS,nS,i0] (D 67 [z39,a,y,z] 0 1 (ms [a] (v1 fun a0=>ms [z] (w4 fun b0 c0 d0 f0=>D 151 [a,a0,z] 0 1 (ms [a] (w13 fun g0 h0 j0 k0 l0 m0 n0 o0 p0 q0 r0 s0 t0=>O0 [a,g0,h0,i7,e0,i1,i0,e0,i0,nS,(.rows [[j0,k0,l0,m0,n0,o0,p0,q0,r0,s0,t0]]),nS,(.rows [[l,m,n,o,p,q,r,s,t,u,v,w,x]]),h])) (ms [a] (w4 fun g0 h0 j0 k0=>O 1 [a,g0,h0,j0,k0]))))) (ms [a] (v1 fun a0=>ms [z] (w2 fun b0 c0=>O 1 [a,a0,z,b0,c0])))))) (ms [a] (v2 fun y z=>ms [i7,e0,i1,i0,e0,i0,nS,nS,nS] (v1 fun a0=>mz [h,i0,e0,i0,i0,e0,i0,nS,nS,nS,nS,i0] (D 67 [z39,a,y,z] 0 1 (ms [a] (v1 fun b0=>ms [z] (w4 fun c0 d0 f0 g0=>D 151 [a,b0,z] 0 1 (ms [a] (w13 fun h0 j0 k0 l0 m0 n0 o0 p0 q0 r0 s0 t0 u0=>O0 [a,h0,j0,i7,e0,i1,i0,e0,i0,nS,(.rows [[k0,l0,m0,n0,o0,p0,q0,r0,s0,t0,u0]]),nS,a0,h])) (ms [a] (w4 fun h0 j0 k0 l0=>O 1 [a,h0,j0,k0,l0]))))) (ms [a] (v1 fun b0=>ms [z] (w2 fun c0 d0=>O 1 [a,b0,z,c0,d0])))))))) (D 105 [a,j,k,(.rows [[l,m,n,o,p,q,r,s,t,u,v,w,x]]),h] 0 2 (ms [a] (v2 fun y z=>ms [i7,e0,i1,i0,e0,i0,nS,nS,nS,(.rows [[l,m,n,o,p,q,r,s,t,u,v,w,x]]),h,i0,e0,i0,i0,e0,i0,nS,nS,nS,nS,i0] (w2 fun a0 b0=>O 1 [a,y,z,a0,b0]))) (ms [a] (v2 fun y z=>ms [i7,e0,i1,i0,e0,i0,nS,nS,nS] (v1 fun a0=>ms [h,i0,e0,i0,i0,e0,i0,nS,nS,nS,nS,i0] (w2 fun b0 c0=>O 1 [a,y,z,b0,c0]))))))) (ms [a] (w4 fun j k l m=>O 1 [a,j,k,l,m]))))) (ms [a] (v1 fun i=>mz [c,bf] (D 155 [a,i,c] 0 1 (ms [a] (w15 fun j k l m n o p q r s t u v w x=>J (D 106 [a,j,k,(.rows [[l,m,n,o,p,q,r,s,t,u,v,w,x]]),h] 1 3 (ms [a] (v2 fun y z=>mz [i7,e0,i0,i0,e0,i0,nS,nS,nS,(.rows [[l,m,n,o,p,q,r,s,t,u,v,w,x]]),h,i0,e0,i0,i0,e0,i0,nS,nS,nS,nS,i0] (D 67 [z39,a,y,z] 0 1 (ms [a] (v1 fun a0=>ms [z] (w4 fun b0 c0 d0 f0=>D 151 [a,a0,z] 0 1 (ms [a] (w13 fun g0 h0 j0 k0 l0 m0 n0 o0 p0 q0 r0 s0 t0=>O0 [a,g0,h0,i7,e0,i0,i0,e0,i0,nS,(.rows [[j0,k0,l0,m0,n0,o0,p0,q0,r0,s0,t0]]),nS,(.rows [[l,m,n,o,p,q,r,s,t,u,v,w,x]]),h])) (ms [a] (w4 fun g0 h0 j0 k0=>O 1 [a,g0,h0,j0,k0]))))) (ms [a] (v1 fun a0=>ms [z] (w2 fun b0 c0=>O 1 [a,a0,z,b0,c0])))))) (ms [a] (v2 fun y z=>ms [i7,e0,i0,i0,e0,i0,nS,nS,nS] (v1 fun a0=>mz [h,i0,e0,i0,i0,e0,i0,nS,nS,nS,nS,i0] (D 67 [z39,a,y,z] 0 1 (ms [a] (v1 fun b0=>ms [z] (w4 fun c0 d0 f0 g0=>D 151 [a,b0,z] 0 1 (ms [a] (w13 fun h0 j0 k0 l0 m0 n0 o0 p0 q0 r0 s0 t0 u0=>O0 [a,h0,j0,i7,e0,i0,i0,e0,i0,nS,(.rows [[k0,l0,m0,n0,o0,p0,q0,r0,s0,t0,u0]]),nS,a0,h])) (ms [a] (w4 fun h0 j0 k0 l0=>O 1 [a,h0,j0,k0,l0]))))) (ms [a] (v1 fun b0=>ms [z] (w2 fun c0 d0=>O 1 [a,b0,z,c0,d0])))))))) (D 106 [a,j,k,(.rows [[l,m,n,o,p,q,r,s,t,u,v,w,x]]),h] 0 2 (ms [a] (v2 fun y z=>ms [i7,e0,i0,i0,e0,i0,nS,nS,nS,(.rows [[l,m,n,o,p,q,r,s,t,u,v,w,x]]),h,i0,e0,i0,i0,e0,i0,nS,nS,nS,nS,i0] (w2 fun a0 b0=>O 1 [a,y,z,a0,b0]))) (ms [a] (v2 fun y z=>ms [i7,e0,i0,i0,e0,i0,nS,nS,nS] (v1 fun a0=>ms [h,i0,e0,i0,i0,e0,i0,nS,nS,nS,nS,i0] (w2 fun b0 c0=>O 1 [a,y,z,b0,c0]))))))) (ms [a] (w4 fun j k l m=>O 1 [a,j,k,l,m]))))))))
def g46ab0a(a b c d e:PV):T:=D 51 [z40,a,b,c] 0 0 (ms [a] (v1 fun f=>mz [c,bt] (D 155 [a,f,c] 0 1 (ms [a] (w15 fun g h i j k l m n o p q r s t u=>P 30 d (.rows [[i,j,k,l,m,n,o,p,q,r,s,t,u]]) fun v=>Y 107 [a,g,h,v,e])) (ms [a] (w4 fun g h i j=>O0 [a,g,h,i7,e0,i1,i0,e0,i0,nS,nS,nS,d,e,i0,e0,i0,i0,e0,i0,nS,nS,nS,nS,i0,i,j]))))) (ms [a] (v1 fun f=>mz [c,bf] (O 1 [a,f,c,i7,e0,i1,i0,e0,i0,nS,nS,nS,d,e,i0,e0,i0,i0,e0,i0,nS,nS,nS,nS,i0])))
def g46ab0b(a b c d e:PV):T:=D 51 [z40,a,b,c] 0 0 (ms [a] (v1 fun f=>mz [c,bt] (D 155 [a,f,c] 0 1 (ms [a] (w15 fun g h i j k l m n o p q r s t u=>P 30 d (.rows [[i,j,k,l,m,n,o,p,q,r,s,t,u]]) fun v=>Y 108 [a,g,h,v,e])) (ms [a] (w4 fun g h i j=>O0 [a,g,h,i7,e0,i0,i0,e0,i0,nS,nS,nS,d,e,i0,e0,i0,i0,e0,i0,nS,nS,nS,nS,i0,i,j]))))) (ms [a] (v1 fun f=>mz [c,bf] (O 1 [a,f,c,i7,e0,i0,i0,e0,i0,nS,nS,nS,d,e,i0,e0,i0,i0,e0,i0,nS,nS,nS,nS,i0])))
def g46ab0c(a b c d e:PV):T:=D 51 [z40,a,b,c] 0 0 (ms [a] (v1 fun f=>mz [c,bt] (D 155 [a,f,c] 0 1 (ms [a] (w15 fun g h i j k l m n o p q r s t u=>P 30 d (.rows [[i,j,k,l,m,n,o,p,q,r,s,t,u]]) fun v=>Y 107 [a,g,h,v,e])) (ms [a] (w4 fun g h i j=>O 2 [a,g,h,i7,e0,i1,i0,e0,i0,nS,nS,nS,d,e,i0,e0,i0,i0,e0,i0,nS,nS,nS,nS,i0,i,j]))))) (ms [a] (v1 fun f=>mz [c,bf] (O 3 [a,f,c,i7,e0,i1,i0,e0,i0,nS,nS,nS,d,e,i0,e0,i0,i0,e0,i0,nS,nS,nS,nS,i0])))
def g46ab0d(a b c d e:PV):T:=D 51 [z40,a,b,c] 0 0 (ms [a] (v1 fun f=>mz [c,bt] (D 155 [a,f,c] 0 1 (ms [a] (w15 fun g h i j k l m n o p q r s t u=>P 30 d (.rows [[i,j,k,l,m,n,o,p,q,r,s,t,u]]) fun v=>Y 108 [a,g,h,v,e])) (ms [a] (w4 fun g h i j=>O 2 [a,g,h,i7,e0,i0,i0,e0,i0,nS,nS,nS,d,e,i0,e0,i0,i0,e0,i0,nS,nS,nS,nS,i0,i,j]))))) (ms [a] (v1 fun f=>mz [c,bf] (O 3 [a,f,c,i7,e0,i0,i0,e0,i0,nS,nS,nS,d,e,i0,e0,i0,i0,e0,i0,nS,nS,nS,nS,i0])))
def g47a(a b c:PV):T:=C0 86 [a,b,c] (ms [a] (v1 fun d=>ms [c] (w4 fun e f g h=>E3 e i1 (O0 [a,d,c,i3,f,i0,i0,e0,i0,nS,nS,nS,nS,h]) (E3 e i2 (O0 [a,d,c,i4,f,i0,i0,e0,i0,nS,nS,nS,nS,h]) (E3 e i3 (O0 [a,d,c,i1,e0,g,i0,e0,i0,nS,nS,nS,nS,h]) (E3 e i4 (O0 [a,d,c,i2,f,i0,i0,e0,i0,nS,nS,nS,nS,h]) (E3 e i6 (E9 f z41 (D 165 [h,a,d,c] 0 1 (ms [a] (w13 fun i j k l m n o p q r s t u=>O0 [a,i,j,k,l,m,n,o,p,q,r,s,t,u])) (ms [a] (w4 fun i j k l=>O 1 [a,i,j,k,l]))) (C0 85 [(iv 110),h,a,d,c] (ms [a,d,c] (w2 fun i j=>O 1 [a,d,c,i,j])))) (E3 e i7 (E9 f z23 (D 166 [h,a,d,c] 0 1 (ms [a] (w13 fun i j k l m n o p q r s t u=>O0 [a,i,j,k,l,m,n,o,p,q,r,s,t,u])) (ms [a] (w4 fun i j k l=>O 1 [a,i,j,k,l]))) (C0 85 [(iv 110),h,a,d,c] (ms [a,d,c] (w2 fun i j=>O 1 [a,d,c,i,j])))) (C0 85 [(iv 110),h,a,d,c] (ms [a,d,c] (w2 fun i j=>O 1 [a,d,c,i,j])))))))))))
def g48a(a b c:PV):T:=C0 50 [a,b,c] (ms [a,b,c] (w4 fun d e f g=>E3 d i1 (O0 [a,b,c,bt]) (E3 d i2 (O0 [a,b,c,bt]) (E3 d i3 (O0 [a,b,c,bt]) (E3 d i4 (O0 [a,b,c,bt]) (D 91 [z23,a,b,c] 0 0 (mz [a,b,c,bt] (O0 [a,b,c,bt])) (mz [a,b,c,bf] (D 91 [z41,a,b,c] 0 0 (mz [a,b,c,bt] (O0 [a,b,c,bt])) (mz [a,b,c,bf] (O0 [a,b,c,bf]))))))))))
def g69a(a b c:PV):T:=C0 50 [a,b,c] (ms [a,b,c] (w4 fun d e f g=>N3 d i2 (D 159 [a,b,c] 0 1 (ms [a] (w6 fun h i j k l m=>O0 [a,h,i,j,k,l,m])) (ms [a] (w4 fun h i j k=>O 1 [a,h,i,j,k]))) (C0 86 [a,b,c] (ms [a] (v1 fun h=>ms [c] (w4 fun i j k l=>J (D 112 [a,h,c,j] 1 3 (ms [a] (v2 fun m n=>mz [i3,j,i0,nS,i0,e0,i0,nS] (O0 [a,m,n,i3,j,i0,nS]))) (ms [a] (v2 fun m n=>ms [i3,j,i0] (v1 fun o=>mz [i0,e0,i0,nS] (O 2 [a,m,n,i3,j,i0,o]))))) (D 112 [a,h,c,j] 0 2 (ms [a] (v2 fun m n=>ms [i3,j,i0,nS,i0,e0,i0,nS] (w2 fun o p=>O 1 [a,m,n,o,p]))) (ms [a] (v2 fun m n=>ms [i3,j,i0] (v1 fun o=>ms [i0,e0,i0,nS] (w2 fun p q=>O 1 [a,m,n,p,q])))))))))))
def g69ab0a(a b c d:PV):T:=D 95 [a,b,c] 0 0 (mz [a,b,c,bt] (D 159 [a,b,c] 0 1 (ms [a] (w6 fun e f g h i j=>Y 113 [a,e,f,d,(.rows [[g,h,i,j]])])) (ms [a] (w4 fun e f g h=>O0 [a,e,f,i3,d,i0,nS,i0,e0,i0,nS,g,h])))) (mz [a,b,c,bf] (O 1 [a,b,c,i3,d,i0,nS,i0,e0,i0,nS]))
def g69ab0b(a b c d e:PV):T:=D 95 [a,b,c] 0 0 (mz [a,b,c,bt] (D 159 [a,b,c] 0 1 (ms [a] (w6 fun f g h i j k=>P 25 e (.rows [[h,i,j,k]]) fun l=>Y 113 [a,f,g,d,l])) (ms [a] (w4 fun f g h i=>O 2 [a,f,g,i3,d,i0,e,i0,e0,i0,nS,h,i])))) (mz [a,b,c,bf] (O 3 [a,b,c,i3,d,i0,e,i0,e0,i0,nS]))
def g67a(a b c d:PV):T:=D 151 [b,c,d] 0 1 (ms [b] (w13 fun e f g h i j k l m n o p q=>D 67 [z42,b,e,f] 0 1 (ms [b] (v1 fun r=>ms [f] (w4 fun s t u v=>J (C0 115 [b,r,f,(.rows [[g,h,i,j,k,l,m,n,o,p,q]]),a] (ms [b] (v2 fun w x=>ms [i8,e0,i0,i0,e0,i0,nS,(.rows [[g,h,i,j,k,l,m,n,o,p,q]])] (v1 fun y=>mz [nS,a,i0,e0,i0,i0,e0,i0,nS,nS,nS,nS,i0] (D 67 [z28,b,w,x] 0 1 (ms [b] (v1 fun z=>ms [x] (w4 fun a0 b0 c0 d0=>O 2 [b,z,x,i8,e0,i0,i0,e0,i0,nS,(.rows [[g,h,i,j,k,l,m,n,o,p,q]]),y,nS,a]))) (ms [b] (v1 fun z=>ms [x] (w2 fun a0 b0=>O 1 [b,z,x,a0,b0])))))))) (D 115 [b,r,f,(.rows [[g,h,i,j,k,l,m,n,o,p,q]]),a] 1 2 (ms [b] (v2 fun w x=>ms [i8,e0,i0,i0,e0,i0,nS,(.rows [[g,h,i,j,k,l,m,n,o,p,q]]),nS,nS,a,i0,e0,i0,i0,e0,i0,nS,nS,nS,nS,i0] (w2 fun y z=>O 1 [b,w,x,y,z]))) (ms [b] (v2 fun w x=>ms [i8,e0,i0,i0,e0,i0,nS,(.rows [[g,h,i,j,k,l,m,n,o,p,q]])] (v1 fun y=>ms [nS,a,i0,e0,i0,i0,e0,i0,nS,nS,nS,nS,i0] (w2 fun z a0=>O 1 [b,w,x,z,a0])))))))) (ms [b] (v1 fun r=>ms [f] (w2 fun s t=>O 1 [b,r,f,s,t]))))) (ms [b] (w4 fun e f g h=>O 1 [b,e,f,g,h]))
def g67ab0a(a b c d e:PV):T:=D 167 [a,b,c] 0 1 (ms [a] (w7 fun f g h i j k l=>D 67 [z37,a,f,g] 0 1 (ms [a] (v1 fun m=>ms [g] (w4 fun n o p q=>D 151 [a,m,g] 0 1 (ms [a] (w13 fun r s t u v w x y z a0 b0 c0 d0=>D 51 [z25,a,r,s] 0 0 (ms [a] (v1 fun f0=>mz [s,bt] (Y 116 [a,f0,s,d,(.rows [[h,i,j,k,l,t,u,v,w,x,y,z,a0,b0,c0,d0]]),e]))) (ms [a] (v1 fun f0=>mz [s,bf] (O0 [a,f0,s,i8,e0,i0,i0,e0,i0,nS,d,(.rows [[h,i,j,k,l,t,u,v,w,x,y,z,a0,b0,c0,d0]]),nS,e,i0,e0,i0,i0,e0,i0,nS,nS,nS,nS,i0]))))) (ms [a] (w4 fun r s t u=>O 1 [a,r,s,i8,e0,i0,i0,e0,i0,nS,d,nS,nS,e,i0,e0,i0,i0,e0,i0,nS,nS,nS,nS,i0,t,u]))))) (ms [a] (v1 fun m=>ms [g] (w2 fun n o=>O 1 [a,m,g,i8,e0,i0,i0,e0,i0,nS,d,nS,nS,e,i0,e0,i0,i0,e0,i0,nS,nS,nS,nS,i0,n,o]))))) (ms [a] (w4 fun f g h i=>O 1 [a,f,g,i8,e0,i0,i0,e0,i0,nS,d,nS,nS,e,i0,e0,i0,i0,e0,i0,nS,nS,nS,nS,i0,h,i]))
def g67ab0b(a b c d e f:PV):T:=D 167 [a,b,c] 0 1 (ms [a] (w7 fun g h i j k l m=>D 67 [z37,a,g,h] 0 1 (ms [a] (v1 fun n=>ms [h] (w4 fun o p q r=>D 151 [a,n,h] 0 1 (ms [a] (w13 fun s t u v w x y z a0 b0 c0 d0 f0=>P 29 e (.rows [[i,j,k,l,m,u,v,w,x,y,z,a0,b0,c0,d0,f0]]) fun g0=>D 51 [z25,a,s,t] 0 0 (ms [a] (v1 fun h0=>mz [t,bt] (Y 116 [a,h0,t,d,g0,f]))) (ms [a] (v1 fun h0=>mz [t,bf] (O0 [a,h0,t,i8,e0,i0,i0,e0,i0,nS,d,g0,nS,f,i0,e0,i0,i0,e0,i0,nS,nS,nS,nS,i0]))))) (ms [a] (w4 fun s t u v=>O 2 [a,s,t,i8,e0,i0,i0,e0,i0,nS,d,e,nS,f,i0,e0,i0,i0,e0,i0,nS,nS,nS,nS,i0,u,v]))))) (ms [a] (v1 fun n=>ms [h] (w2 fun o p=>O 2 [a,n,h,i8,e0,i0,i0,e0,i0,nS,d,e,nS,f,i0,e0,i0,i0,e0,i0,nS,nS,nS,nS,i0,o,p]))))) (ms [a] (w4 fun g h i j=>O 2 [a,g,h,i8,e0,i0,i0,e0,i0,nS,d,e,nS,f,i0,e0,i0,i0,e0,i0,nS,nS,nS,nS,i0,i,j]))
def g68a(a b c d:PV):T:=D 51 [z24,b,c,d] 0 0 (ms [b] (v1 fun e=>mz [d,bt] (O0 [b,e,d,i4,z36,i0,i0,e0,i0,nS,nS,nS,nS,a]))) (ms [b] (v1 fun e=>mz [d,bf] (C0 50 [b,e,d] (ms [b,e,d] (w4 fun f g h i=>E3 f i5 (C0 86 [b,e,d] (ms [b] (v1 fun j=>ms [d] (w4 fun k l m n=>D 67 [z24,b,j,d] 0 1 (ms [b] (v1 fun o=>ms [d] (w4 fun p q r s=>O0 [b,o,d,i3,l,i0,i0,e0,i0,nS,nS,nS,nS,a]))) (ms [b] (v1 fun o=>ms [d] (w2 fun p q=>O 1 [b,o,d,p,q]))))))) (D 151 [b,e,d] 0 1 (ms [b] (w13 fun j k l m n o p q r s t u v=>D 51 [z29,b,j,k] 0 0 (ms [b] (v1 fun w=>mz [k,bt] (D 160 [b,w,k] 0 1 (ms [b] (w6 fun x y z a0 b0 c0=>D 67 [z24,b,x,y] 0 1 (ms [b] (v1 fun d0=>ms [y] (w4 fun f0 g0 h0 j0=>O 2 [b,d0,y,(iv 12),e0,i0,z,a0,b0,c0,(.rows [[l,m,n,o,p,q,r,s,t,u,v]]),nS,nS,a]))) (ms [b] (v1 fun d0=>ms [y] (w2 fun f0 g0=>O 1 [b,d0,y,f0,g0]))))) (ms [b] (w4 fun x y z a0=>O 1 [b,x,y,z,a0]))))) (ms [b] (v1 fun w=>mz [k,bf] (D 67 [z24,b,w,k] 0 1 (ms [b] (v1 fun x=>ms [k] (w4 fun y z a0 b0=>O0 [b,x,k,l,m,n,o,p,q,r,s,t,u,v]))) (ms [b] (v1 fun x=>ms [k] (w2 fun y z=>O 1 [b,x,k,y,z])))))))) (ms [b] (w4 fun j k l m=>O 1 [b,j,k,l,m]))))))))
def g76a(a b c:PV):T:=D 87 [a,b,c] 1 0 (ms [a,b] (w1 fun d=>C0 50 [a,b,d] (ms [a,b,d] (w4 fun e f g h=>E3 e i2 (J (J (C0 124 [a,b,d] (ms [a] (v5 fun i j k l m=>ms [nS] (w1 fun n=>J (D 119 [a,i,j,k,l,m,n] 1 3 (ms [a] (v2 fun o p=>mz [k,l,m,nS,n,i0,e0,i0,nS,i0] (S3 p i1 fun q=>O0 [a,o,q,k,l,m,nS,n]))) (ms [a] (v2 fun o p=>ms [k,l,m] (v1 fun q=>mz [n,i0,e0,i0,nS,i0] (S3 p i1 fun r=>O 1 [a,o,r,k,l,m,q,n]))))) (D 119 [a,i,j,k,l,m,n] 0 2 (ms [a] (v2 fun o p=>ms [k,l,m,nS,n,i0,e0,i0,nS,i0] (w2 fun q r=>S3 p i1 fun s=>O 2 [a,o,s,q,r]))) (ms [a] (v2 fun o p=>ms [k,l,m] (v1 fun q=>ms [n,i0,e0,i0,nS,i0] (w2 fun r s=>S3 p i1 fun t=>O 2 [a,o,t,r,s]))))))))) (C0 168 [a,b,d] (ms [a] (w7 fun i j k l m n o=>D 120 [a,i,j,k,l,m,n,o] 1 0 (ms [a] (v2 fun p q=>mz [k,l,m,n,o,i0,e0,i0,nS,i0] (S3 q i1 fun r=>O0 [a,p,r,k,l,m,n,o]))) (ms [a] (v2 fun p q=>ms [k,l,m,n,o,i0,e0,i0,nS,i0] (w2 fun r s=>S3 q i1 fun t=>O 2 [a,p,t,r,s]))))))) (C 168 [a,b,d] 1 (ms [a] (w4 fun i j k l=>S3 j i1 fun m=>O 2 [a,i,m,k,l])))) (J (J (C0 124 [a,b,d] (ms [a] (v5 fun i j k l m=>ms [nS] (w1 fun n=>D 121 [a,i,j,k,l,m,n] 1 0 (mz [a,i,j,k,l,m,nS,n,i0,e0,i0,nS,i0] (S3 j i1 fun o=>O0 [a,i,o,k,l,m,nS,n])) (ms [a,i,j,k,l,m,nS,n,i0,e0,i0,nS,i0] (w2 fun o p=>S3 j i1 fun q=>O 2 [a,i,q,o,p])))))) (C0 168 [a,b,d] (ms [a] (w7 fun i j k l m n o=>D 122 [a,i,j,k,l,m,n,o] 1 0 (mz [a,i,j,k,l,m,n,o,i0,e0,i0,nS,i0] (S3 j i1 fun p=>O0 [a,i,p,k,l,m,n,o])) (ms [a,i,j,k,l,m,n,o,i0,e0,i0,nS,i0] (w2 fun p q=>S3 j i1 fun r=>O 2 [a,i,r,p,q])))))) (C 168 [a,b,d] 1 (ms [a] (w4 fun i j k l=>S3 j i1 fun m=>O 2 [a,i,m,k,l])))))))) (ms [a,b] (w3 fun d e f=>O 2 [a,b,d,e,f]))
def g76ab0a(a b c d e f g:PV):T:=D 125 [a,b,c] 0 0 (mz [a,b,c,bt] (J (J (C0 124 [a,b,c] (ms [a] (v5 fun h i j k l=>ms [nS] (w1 fun m=>Y 123 [a,h,i,d,e,f,(.rows [[j,k,l,nS,m]]),g])))) (C0 168 [a,b,c] (ms [a] (w7 fun h i j k l m n=>Y 123 [a,h,i,d,e,f,(.rows [[j,k,l,m,n]]),g])))) (C 168 [a,b,c] 1 (ms [a] (w4 fun h i j k=>O0 [a,h,i,d,e,f,nS,g,i0,e0,i0,nS,i0,j,k]))))) (mz [a,b,c,bf] (O 1 [a,b,c,d,e,f,nS,g,i0,e0,i0,nS,i0]))
def g76ab0b(a b c d e f g h:PV):T:=D 125 [a,b,c] 0 0 (mz [a,b,c,bt] (C 168 [a,b,c] 1 (ms [a] (w4 fun i j k l=>O0 [a,i,j,d,e,f,g,h,i0,e0,i0,nS,i0,k,l])))) (mz [a,b,c,bf] (O 1 [a,b,c,d,e,f,g,h,i0,e0,i0,nS,i0]))
def g76ab0c(a b c d e f g:PV):T:=O 1 [a,b,c,d,e,f,nS,g,i0,e0,i0,nS,i0]
def g76ab0d(a b c d e f g h:PV):T:=O 1 [a,b,c,d,e,f,g,h,i0,e0,i0,nS,i0]
def g76ab0e(a b c d e f g h:PV):T:=D 125 [a,b,c] 0 0 (mz [a,b,c,bt] (J (J (C0 124 [a,b,c] (ms [a] (v5 fun i j k l m=>ms [nS] (w1 fun n=>P 71 g (.rows [[k,l,m,nS,n]]) fun o=>Y 123 [a,i,j,d,e,f,o,h])))) (C0 168 [a,b,c] (ms [a] (w7 fun i j k l m n o=>P 71 g (.rows [[k,l,m,n,o]]) fun p=>Y 123 [a,i,j,d,e,f,p,h])))) (C 168 [a,b,c] 1 (ms [a] (w4 fun i j k l=>O 2 [a,i,j,d,e,f,g,h,i0,e0,i0,nS,i0,k,l]))))) (mz [a,b,c,bf] (O 3 [a,b,c,d,e,f,g,h,i0,e0,i0,nS,i0]))
def g83a(a b c:PV):T:=C0 86 [a,b,c] (ms [a] (v1 fun d=>ms [c] (w4 fun e f g h=>E3 e i2 (O0 [a,d,c,i3,f,i0,nS,h]) (E3 e i1 (O0 [a,d,c,i2,f,i0,nS,h]) (E3 e i3 (O0 [a,d,c,i4,e0,g,nS,h]) (E3 e i7 (E9 f z43 (O0 [a,d,c,i1,e0,i0,nS,h]) (N3 e i7 (C0 85 [(iv 110),h,a,d,c] (ms [a,d,c] (w2 fun i j=>O 1 [a,d,c,i,j]))) (N9 f z23 (C0 85 [(iv 110),h,a,d,c] (ms [a,d,c] (w2 fun i j=>O 1 [a,d,c,i,j]))) (D 51 [z24,a,d,c] 0 0 (ms [a] (v1 fun i=>mz [c,bt] (O0 [a,i,c,i3,z36,i0,nS,h]))) (ms [a] (v1 fun i=>mz [c,bf] (D 167 [a,i,c] 0 1 (ms [a] (w7 fun j k l m n o p=>D 67 [z24,a,j,k] 0 1 (ms [a] (v1 fun q=>ms [k] (w4 fun r s t u=>O0 [a,q,k,l,m,n,o,p]))) (ms [a] (v1 fun q=>ms [k] (w2 fun r s=>O 1 [a,q,k,r,s]))))) (ms [a] (w4 fun j k l m=>O 1 [a,j,k,l,m]))))))))) (N3 e i7 (C0 85 [(iv 110),h,a,d,c] (ms [a,d,c] (w2 fun i j=>O 1 [a,d,c,i,j]))) (N9 f z23 (C0 85 [(iv 110),h,a,d,c] (ms [a,d,c] (w2 fun i j=>O 1 [a,d,c,i,j]))) (D 51 [z24,a,d,c] 0 0 (ms [a] (v1 fun i=>mz [c,bt] (O0 [a,i,c,i3,z36,i0,nS,h]))) (ms [a] (v1 fun i=>mz [c,bf] (D 167 [a,i,c] 0 1 (ms [a] (w7 fun j k l m n o p=>D 67 [z24,a,j,k] 0 1 (ms [a] (v1 fun q=>ms [k] (w4 fun r s t u=>O0 [a,q,k,l,m,n,o,p]))) (ms [a] (v1 fun q=>ms [k] (w2 fun r s=>O 1 [a,q,k,r,s]))))) (ms [a] (w4 fun j k l m=>O 1 [a,j,k,l,m]))))))))))))))
def g84a(a b c:PV):T:=C0 50 [a,b,c] (ms [a,b,c] (w4 fun d e f g=>E3 d i2 (O0 [a,b,c,bt]) (E3 d i1 (O0 [a,b,c,bt]) (E3 d i3 (O0 [a,b,c,bt]) (D 91 [z23,a,b,c] 0 0 (mz [a,b,c,bt] (O0 [a,b,c,bt])) (mz [a,b,c,bf] (D 91 [z43,a,b,c] 0 0 (mz [a,b,c,bt] (O0 [a,b,c,bt])) (mz [a,b,c,bf] (O0 [a,b,c,bf])))))))))
def g8(a b c d e f g h:PV):T:=L 39 a fun i=>L 39 e fun j=>N3 i j (O0 [bf]) (L 40 b fun k=>L 40 f fun l=>N3 k l (O0 [bf]) (L 41 c fun m=>L 41 g fun n=>N3 m n (O0 [bf]) (J (C 127 [i0,a,b,c,d,e,f,g,h] 1 (mz [a,b,c,d,e,f,g,h] (J (C 128 [i0,a,b,c,d,e,f,g,h] 1 (mz [a,b,c,d,e,f,g,h] (J (C 129 [i0,a,b,c,d,e,f,g,h] 1 (mz [a,b,c,d,e,f,g,h] (Q0 139 [d,h] (O0 [bt]) (O0 [bf])))) (D 129 [i0,a,b,c,d,e,f,g,h] 0 0 (mz [a,b,c,d,e,f,g,h,bt] (O0 [bt])) (mz [a,b,c,d,e,f,g,h,bf] (O0 [bf])))))) (D 128 [i0,a,b,c,d,e,f,g,h] 0 0 (mz [a,b,c,d,e,f,g,h,bt] (O0 [bt])) (mz [a,b,c,d,e,f,g,h,bf] (O0 [bf])))))) (D 127 [i0,a,b,c,d,e,f,g,h] 0 0 (mz [a,b,c,d,e,f,g,h,bt] (O0 [bt])) (mz [a,b,c,d,e,f,g,h,bf] (O0 [bf]))))))
def g8b0a(a b c d e f g h i:PV):T:=L 39 b fun j=>L3 a j (X 39 b a (w5 fun k l m n o=>X 39 f a (w5 fun p q r s t=>Q0 133 [k,l,m,n,o,p,q,r,s,t] (A3 a i1 fun u=>Y 127 [u,b,c,d,e,f,g,h,i]) (O0 [b,c,d,e,f,g,h,i,bf])))) (O 1 [b,c,d,e,f,g,h,i])
def g8b2a(a b c d e f g h i:PV):T:=L 40 c fun j=>L3 a j (X 40 c a (w6 fun k l m n o p=>X 40 g a (w6 fun q r s t u v=>Q0 135 [k,l,m,n,o,p,q,r,s,t,u,v] (A3 a i1 fun w=>Y 128 [w,b,c,d,e,f,g,h,i]) (O0 [b,c,d,e,f,g,h,i,bf])))) (O 1 [b,c,d,e,f,g,h,i])
def g8b4a(a b c d e f g h i:PV):T:=L 41 d fun j=>L3 a j (X 41 d a (w8 fun k l m n o p q r=>X 41 h a (w8 fun s t u v w x y z=>Q0 137 [k,l,m,n,o,p,q,r,s,t,u,v,w,x,y,z] (A3 a i1 fun a0=>Y 129 [a0,b,c,d,e,f,g,h,i]) (O0 [b,c,d,e,f,g,h,i,bf])))) (O 1 [b,c,d,e,f,g,h,i])
def g9(a b c d e f g h i j k l m n o p q r s t u v:PV):T:=N3 a l (O0 [bf]) (N9 b m (O0 [bf]) (TW .neq 2 c n (O0 [bf]) (Q0 141 [d,e,f,g,o,p,q,r] (L 28 h fun w=>L 28 s fun x=>N3 w x (O0 [bf]) (L 29 i fun y=>L 29 t fun z=>N3 y z (O0 [bf]) (Q0 139 [j,u] (J (C 131 [i0,a,b,c,d,e,f,g,h,i,j,k,l,m,n,o,p,q,r,s,t,u,v] 1 (mz [a,b,c,d,e,f,g,h,i,j,k,l,m,n,o,p,q,r,s,t,u,v] (J (C 132 [i0,a,b,c,d,e,f,g,h,i,j,k,l,m,n,o,p,q,r,s,t,u,v] 1 (mz [a,b,c,d,e,f,g,h,i,j,k,l,m,n,o,p,q,r,s,t,u,v] (O0 [bt]))) (D 132 [i0,a,b,c,d,e,f,g,h,i,j,k,l,m,n,o,p,q,r,s,t,u,v] 0 0 (mz [a,b,c,d,e,f,g,h,i,j,k,l,m,n,o,p,q,r,s,t,u,v,bt] (O0 [bt])) (mz [a,b,c,d,e,f,g,h,i,j,k,l,m,n,o,p,q,r,s,t,u,v,bf] (O0 [bf])))))) (D 131 [i0,a,b,c,d,e,f,g,h,i,j,k,l,m,n,o,p,q,r,s,t,u,v] 0 0 (mz [a,b,c,d,e,f,g,h,i,j,k,l,m,n,o,p,q,r,s,t,u,v,bt] (O0 [bt])) (mz [a,b,c,d,e,f,g,h,i,j,k,l,m,n,o,p,q,r,s,t,u,v,bf] (O0 [bf])))) (O0 [bf])))) (O0 [bf]))))
def g9b0a(a b c d e f g h i j k l m n o p q r s t u v w:PV):T:=L 28 i fun x=>L3 a x (X 28 i a (w11 fun y z a0 b0 c0 d0 f0 g0 h0 j0 k0=>X 28 t a (w11 fun l0 m0 n0 o0 p0 q0 r0 s0 t0 u0 v0=>Q0 130 [y,z,a0,b0,c0,d0,f0,g0,h0,j0,k0,l0,m0,n0,o0,p0,q0,r0,s0,t0,u0,v0] (A3 a i1 fun w0=>Y 131 [w0,b,c,d,e,f,g,h,i,j,k,l,m,n,o,p,q,r,s,t,u,v,w]) (O0 [b,c,d,e,f,g,h,i,j,k,l,m,n,o,p,q,r,s,t,u,v,w,bf])))) (O 1 [b,c,d,e,f,g,h,i,j,k,l,m,n,o,p,q,r,s,t,u,v,w])
def g9b2a(a b c d e f g h i j k l m n o p q r s t u v w:PV):T:=L 29 j fun x=>L3 a x (X 29 j a (w16 fun y z a0 b0 c0 d0 f0 g0 h0 j0 k0 l0 m0 n0 o0 p0=>X 29 u a (w16 fun q0 r0 s0 t0 u0 v0 w0 x0 y0 a1 b1 c1 d1 e1 f1 g1=>Q0 142 [y,z,a0,b0,c0,q0,r0,s0,t0,u0] (Q0 130 [d0,f0,g0,h0,j0,k0,l0,m0,n0,o0,p0,v0,w0,x0,y0,a1,b1,c1,d1,e1,f1,g1] (A3 a i1 fun h1=>Y 132 [h1,b,c,d,e,f,g,h,i,j,k,l,m,n,o,p,q,r,s,t,u,v,w]) (O0 [b,c,d,e,f,g,h,i,j,k,l,m,n,o,p,q,r,s,t,u,v,w,bf])) (O0 [b,c,d,e,f,g,h,i,j,k,l,m,n,o,p,q,r,s,t,u,v,w,bf])))) (O 1 [b,c,d,e,f,g,h,i,j,k,l,m,n,o,p,q,r,s,t,u,v,w])
def g14(a b c d e f g h i j:PV):T:=N9 a f (O0 [bf]) (Q0 144 [b,g] (Q0 144 [d,i] (L 57 c fun k=>L 57 h fun l=>N3 k l (O0 [bf]) (J (C 134 [i0,a,b,c,d,e,f,g,h,i,j] 1 (mz [a,b,c,d,e,f,g,h,i,j] (O0 [bt]))) (D 134 [i0,a,b,c,d,e,f,g,h,i,j] 0 0 (mz [a,b,c,d,e,f,g,h,i,j,bt] (O0 [bt])) (mz [a,b,c,d,e,f,g,h,i,j,bf] (O0 [bf]))))) (O0 [bf])) (O0 [bf]))
def g14b0a(a b c d e f g h i j k:PV):T:=L 57 d fun l=>L3 a l (X 57 d a (w3 fun m n o=>X 57 i a (w3 fun p q r=>N9 m p (O0 [b,c,d,e,f,g,h,i,j,k,bf]) (Q0 146 [n,q] (A3 a i1 fun s=>Y 134 [s,b,c,d,e,f,g,h,i,j,k]) (O0 [b,c,d,e,f,g,h,i,j,k,bf]))))) (O 1 [b,c,d,e,f,g,h,i,j,k])
def g15(a b c d e f g h i j k l:PV):T:=N9 a g (O0 [bf]) (N9 b h (O0 [bf]) (Q0 144 [c,i] (L 61 d fun m=>L 61 j fun n=>N3 m n (O0 [bf]) (J (C 136 [i0,a,b,c,d,e,f,g,h,i,j,k,l] 1 (mz [a,b,c,d,e,f,g,h,i,j,k,l] (Q0 139 [e,k] (O0 [bt]) (O0 [bf])))) (D 136 [i0,a,b,c,d,e,f,g,h,i,j,k,l] 0 0 (mz [a,b,c,d,e,f,g,h,i,j,k,l,bt] (O0 [bt])) (mz [a,b,c,d,e,f,g,h,i,j,k,l,bf] (O0 [bf]))))) (O0 [bf])))
def g15b0a(a b c d e f g h i j k l m:PV):T:=L 61 e fun n=>L3 a n (X 61 e a (w6 fun o p q r s t=>X 61 k a (w6 fun u v w x y z=>N9 o u (O0 [b,c,d,e,f,g,h,i,j,k,l,m,bf]) (Q0 141 [p,q,r,s,v,w,x,y] (A3 a i1 fun a0=>Y 136 [a0,b,c,d,e,f,g,h,i,j,k,l,m]) (O0 [b,c,d,e,f,g,h,i,j,k,l,m,bf]))))) (O 1 [b,c,d,e,f,g,h,i,j,k,l,m])
def g16(a b c d e f g h i j k l m n o p:PV):T:=N9 a i (O0 [bf]) (Q0 141 [b,c,d,e,j,k,l,m] (L 65 f fun q=>L 65 n fun r=>N3 q r (O0 [bf]) (J (C 138 [i0,a,b,c,d,e,f,g,h,i,j,k,l,m,n,o,p] 1 (mz [a,b,c,d,e,f,g,h,i,j,k,l,m,n,o,p] (Q0 139 [g,o] (O0 [bt]) (O0 [bf])))) (D 138 [i0,a,b,c,d,e,f,g,h,i,j,k,l,m,n,o,p] 0 0 (mz [a,b,c,d,e,f,g,h,i,j,k,l,m,n,o,p,bt] (O0 [bt])) (mz [a,b,c,d,e,f,g,h,i,j,k,l,m,n,o,p,bf] (O0 [bf]))))) (O0 [bf]))
def g16b0a(a b c d e f g h i j k l m n o p q:PV):T:=L 65 g fun r=>L3 a r (X 65 g a (w5 fun s t u v w=>X 65 o a (w5 fun x y z a0 b0=>N9 s x (O0 [b,c,d,e,f,g,h,i,j,k,l,m,n,o,p,q,bf]) (Q0 141 [t,u,v,w,y,z,a0,b0] (A3 a i1 fun c0=>Y 138 [c0,b,c,d,e,f,g,h,i,j,k,l,m,n,o,p,q]) (O0 [b,c,d,e,f,g,h,i,j,k,l,m,n,o,p,q,bf]))))) (O 1 [b,c,d,e,f,g,h,i,j,k,l,m,n,o,p,q])
def g17(a b:PV):T:=L 30 a fun c=>L 30 b fun d=>N3 c d (O0 [bf]) (J (C 140 [i0,a,b] 1 (z (O0 [bt]))) (Q0 140 [i0,a,b] (O0 [bt]) (O0 [bf])))
def g17b0a(a b c:PV):T:=L 30 b fun d=>L3 a d (X 30 b a (w13 fun e f g h i j k l m n o p q=>X 30 c a (w13 fun r s t u v w x y z a0 b0 c0 d0=>N9 e r (O0 [bf]) (Q0 130 [f,g,h,i,j,k,l,m,n,o,p,s,t,u,v,w,x,y,z,a0,b0,c0] (A3 a i1 fun f0=>Y 140 [f0,b,c]) (O0 [bf]))))) (O 1 [])
def g18(a b c d e f g h:PV):T:=E3 a e (E9 b f (E3 c g (Q0 146 [d,h] (O0 [bt]) (O0 [bf])) (O0 [bf])) (O0 [bf])) (O0 [bf])
def g19(a b c d e f g h i j:PV):T:=N3 a f (O0 [bf]) (N9 b g (O0 [bf]) (TW .neq 2 c h (O0 [bf]) (L 71 d fun k=>L 71 i fun l=>N3 k l (O0 [bf]) (J (C 143 [i0,a,b,c,d,e,f,g,h,i,j] 1 (mz [a,b,c,d,e,f,g,h,i,j] (O0 [bt]))) (D 143 [i0,a,b,c,d,e,f,g,h,i,j] 0 0 (mz [a,b,c,d,e,f,g,h,i,j,bt] (O0 [bt])) (mz [a,b,c,d,e,f,g,h,i,j,bf] (O0 [bf])))))))
def g19b0a(a b c d e f g h i j k:PV):T:=L 71 e fun l=>L3 a l (X 71 e a (w5 fun m n o p q=>X 71 j a (w5 fun r s t u v=>Q0 142 [m,n,o,p,q,r,s,t,u,v] (A3 a i1 fun w=>Y 143 [w,b,c,d,e,f,g,h,i,j,k]) (O0 [b,c,d,e,f,g,h,i,j,k,bf])))) (O 1 [b,c,d,e,f,g,h,i,j,k])
def g37(a b:PV):T:=L 23 a fun c=>L 23 b fun d=>N3 c d (O0 [bf]) (J (C 145 [i0,a,b] 1 (z (O0 [bt]))) (Q0 145 [i0,a,b] (O0 [bt]) (O0 [bf])))
def g37b0a(a b c:PV):T:=L 23 b fun d=>L3 a d (X 23 b a (w1 fun e=>X 23 c a (w1 fun f=>N9 e f (O0 [bf]) (A3 a i1 fun g=>Y 145 [g,b,c])))) (O 1 [])
def g38(a b:PV):T:=L 25 a fun c=>L 25 b fun d=>N3 c d (O0 [bf]) (J (C 147 [i0,a,b] 1 (z (O0 [bt]))) (Q0 147 [i0,a,b] (O0 [bt]) (O0 [bf])))
def g38b0a(a b c:PV):T:=L 25 b fun d=>L3 a d (X 25 b a (w4 fun e f g h=>X 25 c a (w4 fun i j k l=>Q0 141 [e,f,g,h,i,j,k,l] (A3 a i1 fun m=>Y 147 [m,b,c]) (O0 [bf])))) (O 1 [])
end
def k1(g:PV→Rf):Et:=g (.sym 0) 1
def k2(g:PV→PV→Rf):Et:=g (.sym 0) (.sym 1) 2
def k3(g:PV→PV→PV→Rf):Et:=g (.sym 0) (.sym 1) (.sym 2) 3
def k4(g:PV→PV→PV→PV→Rf):Et:=g (.sym 0) (.sym 1) (.sym 2) (.sym 3) 4
def k5(g:PV→PV→PV→PV→PV→Rf):Et:=g (.sym 0) (.sym 1) (.sym 2) (.sym 3) (.sym 4) 5
def k6(g:PV→PV→PV→PV→PV→PV→Rf):Et:=g (.sym 0) (.sym 1) (.sym 2) (.sym 3) (.sym 4) (.sym 5) 6
def k7(g:PV→PV→PV→PV→PV→PV→PV→Rf):Et:=g (.sym 0) (.sym 1) (.sym 2) (.sym 3) (.sym 4) (.sym 5) (.sym 6) 7
def k8(g:PV→PV→PV→PV→PV→PV→PV→PV→Rf):Et:=g (.sym 0) (.sym 1) (.sym 2) (.sym 3) (.sym 4) (.sym 5) (.sym 6) (.sym 7) 8
def k9(g:PV→PV→PV→PV→PV→PV→PV→PV→PV→Rf):Et:=g (.sym 0) (.sym 1) (.sym 2) (.sym 3) (.sym 4) (.sym 5) (.sym 6) (.sym 7) (.sym 8) 9
def k10(g:PV→PV→PV→PV→PV→PV→PV→PV→PV→PV→Rf):Et:=g (.sym 0) (.sym 1) (.sym 2) (.sym 3) (.sym 4) (.sym 5) (.sym 6) (.sym 7) (.sym 8) (.sym 9) 10
def k11(g:PV→PV→PV→PV→PV→PV→PV→PV→PV→PV→PV→Rf):Et:=g (.sym 0) (.sym 1) (.sym 2) (.sym 3) (.sym 4) (.sym 5) (.sym 6) (.sym 7) (.sym 8) (.sym 9) (.sym 10) 11
def k12(g:PV→PV→PV→PV→PV→PV→PV→PV→PV→PV→PV→PV→Rf):Et:=g (.sym 0) (.sym 1) (.sym 2) (.sym 3) (.sym 4) (.sym 5) (.sym 6) (.sym 7) (.sym 8) (.sym 9) (.sym 10) (.sym 11) 12
def k13(g:PV→PV→PV→PV→PV→PV→PV→PV→PV→PV→PV→PV→PV→Rf):Et:=g (.sym 0) (.sym 1) (.sym 2) (.sym 3) (.sym 4) (.sym 5) (.sym 6) (.sym 7) (.sym 8) (.sym 9) (.sym 10) (.sym 11) (.sym 12) 13
def k14(g:PV→PV→PV→PV→PV→PV→PV→PV→PV→PV→PV→PV→PV→PV→Rf):Et:=g (.sym 0) (.sym 1) (.sym 2) (.sym 3) (.sym 4) (.sym 5) (.sym 6) (.sym 7) (.sym 8) (.sym 9) (.sym 10) (.sym 11) (.sym 12) (.sym 13) 14
def k16(g:PV→PV→PV→PV→PV→PV→PV→PV→PV→PV→PV→PV→PV→PV→PV→PV→Rf):Et:=g (.sym 0) (.sym 1) (.sym 2) (.sym 3) (.sym 4) (.sym 5) (.sym 6) (.sym 7) (.sym 8) (.sym 9) (.sym 10) (.sym 11) (.sym 12) (.sym 13) (.sym 14) (.sym 15) 16
def k17(g:PV→PV→PV→PV→PV→PV→PV→PV→PV→PV→PV→PV→PV→PV→PV→PV→PV→Rf):Et:=g (.sym 0) (.sym 1) (.sym 2) (.sym 3) (.sym 4) (.sym 5) (.sym 6) (.sym 7) (.sym 8) (.sym 9) (.sym 10) (.sym 11) (.sym 12) (.sym 13) (.sym 14) (.sym 15) (.sym 16) 17
def k18(g:PV→PV→PV→PV→PV→PV→PV→PV→PV→PV→PV→PV→PV→PV→PV→PV→PV→PV→Rf):Et:=g (.sym 0) (.sym 1) (.sym 2) (.sym 3) (.sym 4) (.sym 5) (.sym 6) (.sym 7) (.sym 8) (.sym 9) (.sym 10) (.sym 11) (.sym 12) (.sym 13) (.sym 14) (.sym 15) (.sym 16) (.sym 17) 18
def k22(g:PV→PV→PV→PV→PV→PV→PV→PV→PV→PV→PV→PV→PV→PV→PV→PV→PV→PV→PV→PV→PV→PV→Rf):Et:=g (.sym 0) (.sym 1) (.sym 2) (.sym 3) (.sym 4) (.sym 5) (.sym 6) (.sym 7) (.sym 8) (.sym 9) (.sym 10) (.sym 11) (.sym 12) (.sym 13) (.sym 14) (.sym 15) (.sym 16) (.sym 17) (.sym 18) (.sym 19) (.sym 20) (.sym 21) 22
def k23(g:PV→PV→PV→PV→PV→PV→PV→PV→PV→PV→PV→PV→PV→PV→PV→PV→PV→PV→PV→PV→PV→PV→PV→Rf):Et:=g (.sym 0) (.sym 1) (.sym 2) (.sym 3) (.sym 4) (.sym 5) (.sym 6) (.sym 7) (.sym 8) (.sym 9) (.sym 10) (.sym 11) (.sym 12) (.sym 13) (.sym 14) (.sym 15) (.sym 16) (.sym 17) (.sym 18) (.sym 19) (.sym 20) (.sym 21) (.sym 22) 23
def k26(g:PV→PV→PV→PV→PV→PV→PV→PV→PV→PV→PV→PV→PV→PV→PV→PV→PV→PV→PV→PV→PV→PV→PV→PV→PV→PV→Rf):Et:=g (.sym 0) (.sym 1) (.sym 2) (.sym 3) (.sym 4) (.sym 5) (.sym 6) (.sym 7) (.sym 8) (.sym 9) (.sym 10) (.sym 11) (.sym 12) (.sym 13) (.sym 14) (.sym 15) (.sym 16) (.sym 17) (.sym 18) (.sym 19) (.sym 20) (.sym 21) (.sym 22) (.sym 23) (.sym 24) (.sym 25) 26
def pR:Nat→Nat→List PV
 |_,0=>[]
 |a,n+1=>.sym a::pR (a+1) n
def wR:Nat→Nat→List AV
 |_,0=>[]
 |a,n+1=>.pv (.sym a)::wR (a+1) n
def nA:AV:=.pv nS
def eA:AV:=.pv e0
def zA:AV:=.pv i0
def tA:AV:=.pv bt
def fA:AV:=.pv bf
def rA(n:Nat):AV:=.ptr n 0
def nR:Nat→List AV
 |0=>[]
 |n+1=>nA::nR n
def tk(t s n:Nat):AObj:=.tok t s (symBase+n)
def eF(f:Nat)(a:List AV)(h:List AObj)(n m:Nat):Ent:={f:=f,args:=a,h:=h,n:=n,fam:=m }
def eL(a b f:Nat)(e:Env)(h:List AObj)(n m:Nat):Ent:={lp:=some (a,b),f:=f,e:=e,h:=h,n:=n,fam:=m }
def rn(r:List Nat)(e:Ent):Ent:={e with rin:=r }
def wkE(e:Ent)(m b:Nat):Ent:={e with fam:=m,base:=some b }
def wkM(e:Ent)(m b:Nat)(wm:List Nat):Ent:={e with fam:=m,base:=some b,wm:=wm }
def yU(v:AV)(m:Nat):Shape:={v:=v,m:=m }
def yV(v:AV)(h:List AObj)(m:Nat):Shape:={v:=v,h:=h,m:=m }
def yW(v:AV)(h:List AObj)(m:Nat)(r:List Nat):Shape:={v:=v,h:=h,m:=m,rw:=r }
def yE(x:AExit)(e:Env)(h:List AObj)(m:Nat):Shape:={ex:=x,e:=e,h:=h,m:=m }
def yR(x:AExit)(e:Env)(h:List AObj)(m:Nat)(r:List Nat):Shape:={ex:=x,e:=e,h:=h,m:=m,rw:=r }
def b104_3(a:Nat):AObj:=.box 104 (wR a 3)
def b27_4(a:Nat):AObj:=.box 27 (wR a 4)
def b32_11(a:Nat):AObj:=.box 32 (wR a 11)
def b43_4(a:Nat):AObj:=.box 43 (wR a 4)
def b59_5(a:Nat):AObj:=.box 59 (wR a 5)
def b63_6(a:Nat):AObj:=.box 63 (wR a 6)
def b67_8(a:Nat):AObj:=.box 67 (wR a 8)
def b73_5(a:Nat):AObj:=.box 73 (wR a 5)
def b83_3(a:Nat):AObj:=.box 83 (wR a 3)
def b85_4(a:Nat):AObj:=.box 85 (wR a 4)
def o0:AV:=.pv (.sym 0)
def o1:AV:=.pv (.sym 1)
def o2:AV:=.pv (.sym 2)
def o3:AV:=.pv (.sym 3)
def o4:AV:=.pv (.sym 4)
def o5:AV:=.pv (.sym 5)
def o6:AV:=.pv (.sym 6)
def o7:AV:=.pv (.sym 7)
def o8:AV:=.pv (.sym 8)
def o9:AV:=.pv (.sym 9)
def o10:AV:=.pv (.sym 10)
def o11:AV:=.pv (.sym 11)
def o12:AV:=.pv (.sym 12)
def o13:AV:=.pv (.sym 13)
def o14:AV:=.pv (.sym 14)
def o15:AV:=.pv (.sym 15)
def o16:AV:=.pv (.sym 16)
def o17:AV:=.pv (.sym 17)
def o18:AV:=.pv (.sym 18)
def o19:AV:=.pv (.sym 19)
def o22:AV:=.pv (.sym 22)
def y0:List AV:=[(.tup []),(.ifc 35 (.agg [(.pv (.sym 3)),(.pv (.sym 4))]))]
def y1:Env:=[(52,(.ifc 35 (.agg [(.pv (.sym 11)),(.pv (.sym 12))])))]
def y2:Env:=[(0,(rA 0)),(3,(rA 1)),(2,(rA 2))]
def y3:Env:=[(0,(rA 0)),(4,(rA 1)),(2,(rA 2))]
def y4:List Shape:=[yV (.agg (wR 3 11)) [b83_3 0] 14,yV (.tup y0) [b83_3 0] 5]
def y5:Env:=[(65,(.ifc 35 (.agg [(.pv (.sym 16)),(.pv (.sym 17))])))]
def y6:Env:=[(54,(.ifc 35 (.agg [(.pv (.sym 15)),(.pv (.sym 16))])))]
def y7:List Shape:=[yV (.agg (wR 3 4)) [b83_3 0] 7,yV (.tup y0) [b83_3 0] 5]
def y8:Env:=[(3,(rA 1)),(2,(rA 2))]
def y9:Env:=[(51,(.ifc 35 (.agg [(.pv (.sym 19)),(.pv (.sym 20))])))]
def y10:Env:=[(0,(rA 0)),(4,(rA 1)),(2,(rA 3))]
def y11:List Shape:=[yV (.agg (wR 3 5)) [b83_3 0] 8,yV (.tup y0) [b83_3 0] 5]
def y12:Env:=[(65,(.ifc 35 (.agg [(.pv (.sym 13)),(.pv (.sym 14))])))]
def y13:Env:=[(34,(.ifc 35 (.agg [(.pv (.sym 25)),(.pv (.sym 26))])))]
def y14:Env:=[(0,(rA 0)),(3,(rA 1)),(2,(rA 3))]
def y15:Env:=[(4,(rA 1)),(2,(rA 2))]
def y16:Env:=[(5,o0),(2,(rA 0)),(3,(rA 1))]
def y17:Env:=[(0,(rA 0)),(6,(rA 1)),(4,(rA 2)),(2,(rA 4))]
def y18:Env:=[(4,(rA 2)),(6,(rA 1)),(0,(rA 0)),(2,(rA 4))]
def y19:List AObj:=[b83_3 0,.box 104 [o3,(.tsym 6 4),o5],.box 59 [o6,(.tsym 3 7),(.tsym 4 8),o9,o10],tk 9 1 7,tk 104 3 8,b59_5 11,tk 27 4 4]
def y20:List AObj:=[b83_3 0,.box 43 [(.tsym 3 3),(.tsym 4 4),(.tsym 5 5),(.tsym 6 6)],b43_4 7,tk 59 5 3,tk 63 6 4,tk 67 8 5,tk 100 13 6]
def y21:List AObj:=[b83_3 0,.box 63 [o3,o4,(.tsym 2 5),(.tsym 4 6),(.tsym 5 7),o8],tk 9 1 5,b63_6 9,tk 107 6 6,tk 100 13 7]
def y22:List AObj:=[b83_3 0,.box 104 [o3,(.tsym 5 4),o5],.box 59 ([o6,(.tsym 3 7)]++wR 8 3),tk 9 1 7,b59_5 11,tk 27 4 4]
def y23:List AObj:=[b83_3 0,.box 104 [o3,(.tsym 5 4),o5],.box 59 [o6,o7,(.tsym 3 8),o9,o10],tk 104 3 8,b59_5 11,tk 27 4 4]
def y24:List AObj:=[b83_3 0,.box 43 [(.tsym 3 3),(.tsym 4 4),o5,(.tsym 5 6)],b43_4 7,tk 59 5 3,tk 63 6 4,tk 100 13 6]
def y25:List AObj:=[b83_3 0,.box 43 [(.tsym 3 3),o4,(.tsym 4 5),(.tsym 5 6)],b43_4 7,tk 59 5 3,tk 67 8 5,tk 100 13 6]
def y26:List AObj:=[b83_3 0,.box 43 [o3,(.tsym 3 4),(.tsym 4 5),(.tsym 5 6)],b43_4 7,tk 63 6 4,tk 67 8 5,tk 100 13 6]
def y27:List AObj:=[b83_3 0,.box 32 (wR 3 7++[(.tsym 2 10),(.tsym 4 11),o12,o13]),tk 32 11 10,b32_11 14,tk 75 16 11]
def y28:List AObj:=[b83_3 0,.box 43 [(.tsym 3 3),(.tsym 4 4),(.tsym 5 5),o6],b43_4 7,tk 59 5 3,tk 63 6 4,tk 67 8 5]
def y29:Env:=[(4,(rA 1)),(2,(rA 3))]
def y30:List AObj:=[.arr 3 1 (.sym 4),.arr 32 11 (.sym 5),tk 85 4 3,.box 32 ([zA,eA,zA,zA,eA,zA]++nR 4++[zA])]
def y31:List AObj:=[b83_3 0,b104_3 3,.box 59 [o6,(.tsym 3 7),(.tsym 4 8),o9,o10],tk 9 1 7,tk 104 3 8,b59_5 11]
def y32:List AObj:=[b83_3 0,.box 67 (wR 3 5++[(.tsym 2 8),(.tsym 4 9),o10]),tk 109 5 8,b67_8 11,tk 100 13 9]
def y33:List AObj:=[b83_3 0,.box 63 (wR 3 3++[(.tsym 3 6),(.tsym 4 7),o8]),b63_6 9,tk 107 6 6,tk 100 13 7]
def y34:List AObj:=[b83_3 0,.box 32 (wR 3 7++[(.tsym 4 10)]++wR 11 3),b85_4 14,b32_11 18,tk 32 11 10]
def y35:List AObj:=[b83_3 0,.box 63 [o3,o4,(.tsym 2 5),o6,(.tsym 4 7),o8],tk 9 1 5,b63_6 9,tk 100 13 7]
def y36:List AObj:=[.arr 3 1 (.sym 3),.arr 32 11 (.sym 4),.box 32 ([zA,eA,zA,zA,eA,zA]++nR 4++[zA])]
def y37:List AObj:=[b83_3 0,.box 63 [o3,o4,(.tsym 2 5),(.tsym 4 6),o7,o8],tk 9 1 5,b63_6 9,tk 107 6 6]
def y38:List Shape:=[yE .ret [(4,o0)] [] 1,yE (.exit 0) [] [] 0]
def y39:List AObj:=[b83_3 0,.box 59 [o3,(.tsym 2 4),(.tsym 4 5),o6,o7],tk 9 1 4,b59_5 8,tk 104 3 5]
def y40:List AObj:=[b83_3 0,.box 43 [(.tsym 3 3),o4,o5,(.tsym 4 6)],b43_4 7,tk 59 5 3,tk 100 13 6]
def y41:List AObj:=[b83_3 0,.box 43 [o3,(.tsym 3 4),o5,(.tsym 4 6)],b43_4 7,tk 63 6 4,tk 100 13 6]
def y42:List AObj:=[b83_3 0,.box 43 [o3,o4,(.tsym 3 5),(.tsym 4 6)],b43_4 7,tk 67 8 5,tk 100 13 6]
def y43:List AObj:=[b83_3 0,.box 43 [(.tsym 3 3),(.tsym 4 4),o5,o6],b43_4 7,tk 59 5 3,tk 63 6 4]
def y44:List AObj:=[b83_3 0,.box 43 [(.tsym 3 3),o4,(.tsym 4 5),o6],b43_4 7,tk 59 5 3,tk 67 8 5]
def y45:List AObj:=[b83_3 0,.box 43 [o3,(.tsym 3 4),(.tsym 4 5),o6],b43_4 7,tk 63 6 4,tk 67 8 5]
def y46:List AObj:=[b83_3 0,.box 32 (wR 3 9++[(.tsym 4 12),o13]),.dead,b32_11 14,tk 100 13 12]
def en18:Ent:=eF 29 [(.agg (wR 0 4)),(.agg (wR 4 11)),(.agg (wR 15 11))] [] 26 9
def en23:Ent:=eF 13 [(rA 0)] [b83_3 0] 3 14
def en41:Ent:=eF 11 [(rA 0)] [b83_3 0] 3 17
def en52:Ent:=eF 32 [(rA 0)] [b83_3 0] 3 27
def en68:Ent:=eF 33 [(rA 0)] [b83_3 0] 3 35
def en77:Ent:=eF 34 [(rA 0)] [b83_3 0] 3 38
def en84:Ent:=eF 36 [(rA 0)] [b83_3 0] 3 42
def en88:Ent:=eF 24 [(rA 0)] [b83_3 0] 3 46
def en92:Ent:=eF 52 [(rA 0)] [b83_3 0] 3 49
def en96:Ent:=eF 51 [(rA 0)] [b83_3 0] 3 52
def en98:Ent:=eF 54 [(rA 0)] [b83_3 0] 3 54
def en99:Ent:=eF 45 [(rA 0),o0] [b83_3 1] 4 55
def en104:Ent:=eF 46 [(rA 0)] [b83_3 0] 3 58
def en109:Ent:=eF 47 [(rA 0)] [b83_3 0] 3 60
def en111:Ent:=eF 69 [(rA 0)] [b83_3 0] 3 62
def en114:Ent:=eF 67 [(rA 0),o0] [b83_3 1] 4 64
def en117:Ent:=eF 68 [(rA 0),o0] [b83_3 1] 4 66
def en118:Ent:=eF 76 [(rA 0)] [b83_3 0] 3 67
def en124:Ent:=eF 83 [(rA 0)] [b83_3 0] 3 69
def en150:Ent:=wkM en23 95 23 [0,0,0,0,0,0,0,0,0,0,0,0,0,0,0,0,1]
def en151:Ent:=wkM en41 96 41 [1,0]
def en152:Ent:=wkM en52 97 52 [0,1,0,0,0,0,0,0,0]
def en153:Ent:=wkM en68 98 68 [0,0,0,0,1,0,0,0,0]
def en154:Ent:=wkM en77 99 77 [0,0,1,0,0]
def en155:Ent:=wkM en84 100 84 [0,1]
def en156:Ent:=wkM en88 101 88 [0,1,0,0,0,0,0,0,0,0,0,0,0,0,0,0,0]
def en157:Ent:=wkE en18 102 18
def en158:Ent:=wkM en92 103 92 [0,1]
def en159:Ent:=wkM en96 104 96 [0,1]
def en160:Ent:=wkM en98 105 98 [0,1,0]
def en161:Ent:=wkM en99 106 99 [0,0,0,0,0,0,0,0,0,0,0,0,0,0,0,0,1]
def en162:Ent:=wkM en104 107 104 [0,1]
def en163:Ent:=wkM en109 108 109 [0,1]
def en164:Ent:=wkM en111 109 111 [0,1,0]
def en165:Ent:=wkM en114 110 114 [0,1,0]
def en166:Ent:=wkM en117 111 117 [0,1,0]
def en167:Ent:=wkM en118 112 118 [0,0,1]
def en168:Ent:=wkM en124 113 124 [0,1]
def enL:List Ent:=[
 eF 27 [o0] [] 1 0,
 eL 0 0 27 [(17,o0),(16,o1),(15,o2),(6,nA),(0,o3),(5,nA)] [] 4 1,
 eL 0 0 27 [(17,o0),(16,o1),(15,o2),(6,(.arr 0)),(0,o3),(5,nA)] [.arr 3 1 (.sym 4)] 5 1,
 eL 0 0 27 [(17,o0),(16,o1),(15,o2),(6,(.arr 0)),(0,o3),(5,(.arr 1))] [.arr 3 1 (.sym 4),.arr 3 1 (.sym 5)] 6 1,
 eL 2 0 27 [(6,nA),(0,o0),(9,o1),(10,o2),(7,o3),(17,o4),(16,o5),(15,o6),(5,nA)] [] 7 2,
 eL 2 1 27 [(6,(.arr 0)),(0,o0),(9,o1),(10,o2),(7,o3),(17,o4),(16,o5),(15,o6),(5,nA)] [.arr 3 1 (.sym 7)] 8 3,
 eL 2 2 27 [(6,(.arr 0)),(0,o0),(9,o1),(10,o2),(7,o3),(17,o4),(16,o5),(15,o6),(5,(.arr 1))] [.arr 3 1 (.sym 7),.arr 3 1 (.sym 8)] 9 4,
 eL 2 1 27 [(6,(.arr 1)),(0,o0),(9,o1),(10,o2),(7,o3),(17,o4),(16,o5),(15,o6),(5,(.arr 2))] [.dead,.arr 3 1 (.sym 7),.arr 3 1 (.sym 8)] 9 3,
 eL 2 2 27 [(6,(.arr 2)),(0,o0),(9,o1),(10,o2),(7,o3),(17,o4),(16,o5),(15,o6),(5,(.arr 3))] [.dead,.dead,.arr 3 1 (.sym 7),.arr 3 1 (.sym 8)] 9 4,
 eL 5 0 27 [(14,o0),(5,nA),(6,nA)] [] 1 5,
 eL 5 1 27 [(14,o0),(5,(.arr 0)),(6,nA)] [.arr 3 1 (.sym 1)] 2 6,
 eL 5 1 27 [(14,o0),(5,nA),(6,(.arr 0))] [.arr 3 1 (.sym 1)] 2 6,
 eL 5 2 27 [(14,o0),(5,(.arr 0)),(6,(.arr 1))] [.arr 3 1 (.sym 1),.arr 3 1 (.sym 2)] 3 7,
 eL 5 0 27 [(14,o0),(5,(.arr 0)),(6,nA)] [.arr 3 1 (.sym 1)] 2 5,
 eL 5 1 27 [(14,o0),(5,(.arr 1)),(6,nA)] [.dead,.arr 3 1 (.sym 1)] 2 6,
 eL 5 1 27 [(14,o0),(5,(.arr 1)),(6,(.arr 0))] [.arr 3 1 (.sym 1),.arr 3 1 (.sym 2)] 3 6,
 eL 5 2 27 [(14,o0),(5,(.arr 2)),(6,(.arr 1))] [.dead,.arr 3 1 (.sym 1),.arr 3 1 (.sym 2)] 3 7,
 eF 49 [o0] [] 1 8,
 en18,
 eF 7 [o0] [] 1 10,
 eF 6 [o0] [] 1 11,
 eF 12 [o0,(.fn 13 [])] [] 1 12,
 eF 10 [o0,(.fn 11 [])] [] 1 13,
 en23,
 eL 0 3 13 y2 [b83_3 0,.box 43 (nR 4),.box 43 (nR 4)] 3 15,
 rn [3] (eL 0 3 13 y2 [b83_3 0,.box 43 [(.tsym 3 3),nA,nA,nA],.box 43 (nR 4),tk 59 5 3] 4 15),
 rn [3] (eL 0 3 13 y2 [b83_3 0,.box 43 [nA,(.tsym 3 3),nA,nA],.box 43 (nR 4),tk 63 6 3] 4 15),
 rn [3] (eL 0 3 13 y2 [b83_3 0,.box 43 [nA,nA,(.tsym 3 3),nA],.box 43 (nR 4),tk 67 8 3] 4 15),
 rn [3] (eL 0 3 13 y2 [b83_3 0,.box 43 [nA,nA,nA,(.tsym 3 3)],.box 43 (nR 4),tk 100 13 3] 4 15),
 rn [3,4] (eL 0 3 13 y2 [b83_3 0,.box 43 [(.tsym 3 3),(.tsym 4 4),nA,nA],.box 43 (nR 4),tk 59 5 3,tk 63 6 4] 5 15),
 rn [3,4] (eL 0 3 13 y2 [b83_3 0,.box 43 [(.tsym 3 3),nA,(.tsym 4 4),nA],.box 43 (nR 4),tk 59 5 3,tk 67 8 4] 5 15),
 rn [3,4] (eL 0 3 13 y2 [b83_3 0,.box 43 [(.tsym 3 3),nA,nA,(.tsym 4 4)],.box 43 (nR 4),tk 59 5 3,tk 100 13 4] 5 15),
 rn [3,4] (eL 0 3 13 y2 [b83_3 0,.box 43 [nA,(.tsym 3 3),(.tsym 4 4),nA],.box 43 (nR 4),tk 63 6 3,tk 67 8 4] 5 15),
 rn [3,4] (eL 0 3 13 y2 [b83_3 0,.box 43 [nA,(.tsym 3 3),nA,(.tsym 4 4)],.box 43 (nR 4),tk 63 6 3,tk 100 13 4] 5 15),
 rn [3,4] (eL 0 3 13 y2 [b83_3 0,.box 43 [nA,nA,(.tsym 3 3),(.tsym 4 4)],.box 43 (nR 4),tk 67 8 3,tk 100 13 4] 5 15),
 rn [3,4,5] (eL 0 3 13 y2 [b83_3 0,.box 43 [(.tsym 3 3),(.tsym 4 4),(.tsym 5 5),nA],.box 43 (nR 4),tk 59 5 3,tk 63 6 4,tk 67 8 5] 6 15),
 rn [3,4,5] (eL 0 3 13 y2 [b83_3 0,.box 43 [(.tsym 3 3),(.tsym 4 4),nA,(.tsym 5 5)],.box 43 (nR 4),tk 59 5 3,tk 63 6 4,tk 100 13 5] 6 15),
 rn [3,4,5] (eL 0 3 13 y2 [b83_3 0,.box 43 [(.tsym 3 3),nA,(.tsym 4 4),(.tsym 5 5)],.box 43 (nR 4),tk 59 5 3,tk 67 8 4,tk 100 13 5] 6 15),
 rn [3,4,5] (eL 0 3 13 y2 [b83_3 0,.box 43 [nA,(.tsym 3 3),(.tsym 4 4),(.tsym 5 5)],.box 43 (nR 4),tk 63 6 3,tk 67 8 4,tk 100 13 5] 6 15),
 rn [3,4,5,6] (eL 0 3 13 y2 [b83_3 0,.box 43 [(.tsym 3 3),(.tsym 4 4),(.tsym 5 5),(.tsym 6 6)],.box 43 (nR 4),tk 59 5 3,tk 63 6 4,tk 67 8 5,tk 100 13 6] 7 15),
 eF 22 [(rA 0),o0] [b83_3 1] 4 16,
 en41,
 eL 0 3 11 [(0,(rA 0)),(4,nA),(5,nA),(3,(.arr 1)),(2,(rA 2))] [b83_3 0,.arr 32 11 (.sym 3),.box 32 ([zA,eA,zA,zA,eA,zA]++nR 4++[zA])] 4 18,
 rn [0,1] (eL 0 3 11 [(0,(rA 0)),(4,(.tsym 3 0)),(5,(.tsym 4 1)),(3,(.arr 5)),(2,(rA 2))] [b83_3 2,.dead,.box 32 ([zA,eA,zA,zA,eA,zA]++nR 4++[zA]),tk 85 4 0,tk 9 1 1,.arr 32 11 (.sym 5)] 6 18),
 eL 2 3 11 [(67,o0),(66,o1),(9,(.arr 0)),(6,o2),(3,(.arr 1)),(4,nA),(2,(rA 2))] y36 5 19,
 rn [3] (eL 2 4 11 [(67,o0),(66,o1),(9,(.arr 0)),(6,o2),(3,(.arr 1)),(4,(.tsym 2 3)),(2,(rA 3))] y30 6 20),
 eL 4 3 11 [(77,o0),(76,o1),(75,o2),(9,(.arr 0)),(3,(.arr 1)),(4,nA),(2,(rA 2))] y36 5 21,
 rn [3] (eL 4 4 11 [(77,o0),(76,o1),(75,o2),(9,(.arr 0)),(3,(.arr 1)),(4,(.tsym 2 3)),(2,(rA 3))] y30 6 22),
 eL 6 3 11 [(9,(.arr 0)),(13,o0),(3,(.arr 1)),(4,nA),(12,o1),(14,o2),(77,o3),(76,o4),(75,o5),(2,(rA 2))] [.arr 3 1 (.sym 6),.arr 32 11 (.sym 7),.box 32 ([zA,eA,zA,zA,eA,zA]++nR 4++[zA])] 8 23,
 rn [1] (eL 6 4 11 [(9,(.arr 0)),(13,o0),(3,(.arr 1)),(4,(.tsym 2 1)),(12,o2),(14,o3),(77,o4),(76,o5),(75,o6),(2,(rA 3))] [.arr 3 1 (.sym 7),.arr 32 11 (.sym 8),tk 85 4 1,.box 32 ([zA,eA,zA,zA,eA,zA]++nR 4++[zA])] 9 24),
 eF 25 [(rA 0)] [b83_3 0] 3 25,
 eF 31 [(rA 0),o0] [b83_3 1] 4 26,
 en52,
 eL 0 3 32 y3 [b83_3 0,.box 59 [o3,nA,nA,nA,o4],.box 59 [eA,nA,nA,nA,zA]] 5 28,
 rn [4] (eL 0 3 32 y3 [b83_3 0,.box 59 [o3,(.tsym 3 4),nA,nA,o5],.box 59 [eA,nA,nA,nA,zA],tk 9 1 4] 6 28),
 eL 2 3 32 y3 [b83_3 0,.box 59 [o3,nA,nA,nA,o4],.box 59 [eA,nA,nA,nA,zA]] 5 29,
 rn [4] (eL 2 4 32 y10 [b83_3 0,.box 59 [o3,(.tsym 2 4),nA,nA,o5],tk 9 1 4,.box 59 [eA,nA,nA,nA,zA]] 6 30),
 rn [4] (eL 2 3 32 y3 [b83_3 0,.box 59 [o3,nA,(.tsym 3 4),nA,o5],.box 59 [eA,nA,nA,nA,zA],tk 104 3 4] 6 29),
 rn [4,5] (eL 2 4 32 y10 [b83_3 0,.box 59 [o3,(.tsym 2 4),(.tsym 4 5),nA,o6],tk 9 1 4,.box 59 [eA,nA,nA,nA,zA],tk 104 3 5] 7 30),
 eL 4 4 32 [(0,(rA 0)),(6,(rA 1)),(4,(rA 2)),(2,(rA 3))] [b83_3 0,.box 104 [o3,nA,o4],.box 59 [o5,nA,nA,nA,o6],.box 59 [eA,nA,nA,nA,zA]] 7 31,
 rn [6] (eL 4 5 32 y17 [b83_3 0,.box 104 [o3,nA,o4],.box 59 [o5,(.tsym 3 6),nA,nA,o7],tk 9 1 6,.box 59 [eA,nA,nA,nA,zA]] 8 32),
 rn [6] (eL 4 5 32 y17 [b83_3 0,.box 104 [o3,nA,o4],.box 59 [o5,nA,(.tsym 3 6),nA,o7],tk 104 3 6,.box 59 [eA,nA,nA,nA,zA]] 8 32),
 rn [6,7] (eL 4 6 32 [(0,(rA 0)),(6,(rA 1)),(4,(rA 2)),(2,(rA 5))] [b83_3 0,.box 104 [o3,nA,o4],.box 59 [o5,(.tsym 3 6),(.tsym 4 7),nA,o8],tk 9 1 6,tk 104 3 7,.box 59 [eA,nA,nA,nA,zA]] 9 33),
 rn [4] (eL 4 4 32 [(0,(rA 0)),(6,(rA 1)),(4,(rA 2)),(2,(rA 3))] [b83_3 0,.box 104 [o3,(.tsym 4 4),o5],.box 59 [o6,nA,nA,nA,o7],.box 59 [eA,nA,nA,nA,zA],tk 27 4 4] 8 31),
 rn [4,7] (eL 4 5 32 y17 [b83_3 0,.box 104 [o3,(.tsym 5 4),o5],.box 59 [o6,(.tsym 3 7),nA,nA,o8],tk 9 1 7,.box 59 [eA,nA,nA,nA,zA],tk 27 4 4] 9 32),
 rn [4,7] (eL 4 5 32 y17 [b83_3 0,.box 104 [o3,(.tsym 5 4),o5],.box 59 [o6,nA,(.tsym 3 7),nA,o8],tk 104 3 7,.box 59 [eA,nA,nA,nA,zA],tk 27 4 4] 9 32),
 rn [4,7,8] (eL 4 6 32 [(0,(rA 0)),(6,(rA 1)),(4,(rA 2)),(2,(rA 5))] [b83_3 0,.box 104 [o3,(.tsym 6 4),o5],.box 59 [o6,(.tsym 3 7),(.tsym 4 8),nA,o9],tk 9 1 7,tk 104 3 8,.box 59 [eA,nA,nA,nA,zA],tk 27 4 4] 10 33),
 eF 35 [(rA 0),o0] [b83_3 1] 4 34,
 en68,
 eL 0 3 33 y3 [b83_3 0,.box 63 [o3,o4,nA,nA,nA,o5],.box 63 [eA,eA,nA,nA,nA,zA]] 6 36,
 rn [5] (eL 0 4 33 y10 [b83_3 0,.box 63 [o3,o4,(.tsym 2 5),nA,nA,o6],tk 9 1 5,.box 63 [eA,eA,nA,nA,nA,zA]] 7 37),
 rn [5] (eL 0 3 33 y3 [b83_3 0,.box 63 [o3,o4,nA,nA,(.tsym 3 5),o6],.box 63 [eA,eA,nA,nA,nA,zA],tk 100 13 5] 7 36),
 rn [5] (eL 0 3 33 y3 [b83_3 0,.box 63 [o3,o4,nA,(.tsym 3 5),nA,o6],.box 63 [eA,eA,nA,nA,nA,zA],tk 107 6 5] 7 36),
 rn [5,6] (eL 0 4 33 y10 [b83_3 0,.box 63 [o3,o4,(.tsym 2 5),nA,(.tsym 4 6),o7],tk 9 1 5,.box 63 [eA,eA,nA,nA,nA,zA],tk 100 13 6] 8 37),
 rn [5,6] (eL 0 4 33 y10 [b83_3 0,.box 63 [o3,o4,(.tsym 2 5),(.tsym 4 6),nA,o7],tk 9 1 5,.box 63 [eA,eA,nA,nA,nA,zA],tk 107 6 6] 8 37),
 rn [5,6] (eL 0 3 33 y3 [b83_3 0,.box 63 [o3,o4,nA,(.tsym 3 5),(.tsym 4 6),o7],.box 63 [eA,eA,nA,nA,nA,zA],tk 107 6 5,tk 100 13 6] 8 36),
 rn [5,6,7] (eL 0 4 33 y10 [b83_3 0,.box 63 [o3,o4,(.tsym 2 5),(.tsym 4 6),(.tsym 5 7),o8],tk 9 1 5,.box 63 [eA,eA,nA,nA,nA,zA],tk 107 6 6,tk 100 13 7] 9 37),
 en77,
 eL 0 3 34 y3 [b83_3 0,.box 67 (wR 3 5++[nA,nA,o8]),.box 67 [eA,zA,eA,zA,nA,nA,nA,zA]] 9 39,
 rn [8] (eL 0 3 34 y3 [b83_3 0,.box 67 (wR 3 5++[(.tsym 3 8),nA,o9]),.box 67 [eA,zA,eA,zA,nA,nA,nA,zA],tk 109 5 8] 10 39),
 eL 2 3 34 y3 [b83_3 0,.box 67 (wR 3 5++[nA,nA,o8]),.box 67 [eA,zA,eA,zA,nA,nA,nA,zA]] 9 40,
 rn [8] (eL 2 4 34 y10 [b83_3 0,.box 67 (wR 3 5++[(.tsym 2 8),nA,o9]),tk 109 5 8,.box 67 [eA,zA,eA,zA,nA,nA,nA,zA]] 10 41),
 rn [8] (eL 2 3 34 y3 [b83_3 0,.box 67 (wR 3 5++[nA,(.tsym 3 8),o9]),.box 67 [eA,zA,eA,zA,nA,nA,nA,zA],tk 100 13 8] 10 40),
 rn [8,9] (eL 2 4 34 y10 [b83_3 0,.box 67 (wR 3 5++[(.tsym 2 8),(.tsym 4 9),o10]),tk 109 5 8,.box 67 [eA,zA,eA,zA,nA,nA,nA,zA],tk 100 13 9] 11 41),
 en84,
 eF 28 [(rA 0),o0,o1] [b83_3 2] 5 43,
 eF 26 [(rA 0)] [b83_3 0] 3 44,
 eF 23 [(rA 0)] [b83_3 0] 3 45,
 en88,
 eL 1 4 24 [(0,(rA 0)),(6,(rA 1)),(3,(rA 2)),(2,(rA 3))] [b83_3 0,b32_11 3,b85_4 14,.box 32 ([zA,eA,zA,zA,eA,zA]++nR 4++[zA])] 18 47,
 rn [3] (eL 1 4 24 [(0,(rA 0)),(6,(rA 1)),(3,(rA 2)),(2,(rA 3))] [b83_3 0,.box 32 [(.pv (.lit (.int .i64 5))),eA,zA,zA,eA,zA,nA,(.tsym 4 3),nA,nA,o4],b85_4 5,.box 32 ([zA,eA,zA,zA,eA,zA]++nR 4++[zA]),tk 32 11 3] 9 47),
 eF 44 [(rA 0),o0] [b83_3 1] 4 48,
 en92,
 rn [0] (eL 0 2 52 [(0,(rA 0)),(3,(.tsym 1 0))] [b83_3 1,tk 9 1 0] 4 50),
 rn [0] (eL 0 2 52 [(0,(rA 0)),(3,(.tsym 2 0))] [b83_3 1,.dead,tk 9 1 0] 4 50),
 eF 50 [(rA 0)] [b83_3 0] 3 51,
 en96,
 eF 53 [(rA 0)] [b83_3 0] 3 53,
 en98,
 en99,
 rn [0] (eL 0 3 45 [(0,(rA 0)),(5,(.tsym 1 0)),(1,o1),(4,(rA 2))] [b83_3 2,tk 85 4 0,.box 32 ([zA,eA,zA,zA,eA,zA]++nR 4++[zA])] 5 56),
 rn [0] (eL 0 3 45 [(0,(rA 0)),(5,(.tsym 3 0)),(1,o1),(4,(rA 2))] [b83_3 2,.dead,.box 32 ([zA,eA,zA,zA,eA,zA]++nR 4++[zA]),tk 85 4 0] 5 56),
 rn [1] (eL 2 3 45 [(7,o0),(5,(.tsym 0 1)),(6,(rA 1)),(1,o2),(4,(rA 2))] [tk 85 4 1,b32_11 3,.box 32 ([zA,eA,zA,zA,eA,zA]++nR 4++[zA])] 14 57),
 rn [1,4] (eL 2 3 45 [(7,o0),(5,(.tsym 0 1)),(6,(rA 1)),(1,o2),(4,(rA 2))] [tk 85 4 1,.box 32 [(.pv (.lit (.int .i64 6))),o3,zA,zA,eA,zA,nA,(.tsym 3 4),nA,nA,o5],.box 32 ([zA,eA,zA,zA,eA,zA]++nR 4++[zA]),tk 32 11 4] 6 57),
 en104,
 rn [3] (eL 0 4 46 y14 [b83_3 0,.box 32 [(.pv (.lit (.int .i64 7))),eA,(.pv (.lit (.int .i64 1))),zA,eA,zA,nA,nA,nA,(.tsym 2 3),o4],tk 100 13 3,.box 32 ([zA,eA,zA,zA,eA,zA]++nR 4++[zA])] 5 59),
 rn [3] (eL 0 4 46 y14 [b83_3 0,.box 32 [(.pv (.lit (.int .i64 7))),eA,zA,zA,eA,zA,nA,nA,nA,(.tsym 2 3),o4],tk 100 13 3,.box 32 ([zA,eA,zA,zA,eA,zA]++nR 4++[zA])] 5 59),
 rn [3] (eL 0 4 46 y14 [b83_3 0,.box 32 [(.pv (.lit (.int .i64 7))),eA,(.pv (.lit (.int .i64 1))),zA,eA,zA,nA,nA,nA,(.tsym 4 3),o4],.dead,.box 32 ([zA,eA,zA,zA,eA,zA]++nR 4++[zA]),tk 100 13 3] 5 59),
 rn [3] (eL 0 4 46 y14 [b83_3 0,.box 32 [(.pv (.lit (.int .i64 7))),eA,zA,zA,eA,zA,nA,nA,nA,(.tsym 4 3),o4],.dead,.box 32 ([zA,eA,zA,zA,eA,zA]++nR 4++[zA]),tk 100 13 3] 5 59),
 en109,
 eF 48 [(rA 0)] [b83_3 0] 3 61,
 en111,
 eL 0 3 69 y2 [b83_3 0,.box 27 [(.pv (.lit (.int .i64 3))),o3,zA,nA],.box 27 [zA,eA,zA,nA]] 4 63,
 rn [4] (eL 0 3 69 y2 [b83_3 0,.box 27 [(.pv (.lit (.int .i64 3))),o3,zA,(.tsym 3 4)],.box 27 [zA,eA,zA,nA],tk 27 4 4] 5 63),
 en114,
 rn [3] (eL 0 4 67 [(0,(rA 0)),(5,(rA 1)),(4,(rA 3))] [b83_3 0,.box 32 [(.pv (.lit (.int .i64 8))),eA,zA,zA,eA,zA,nA,(.tsym 2 3),nA,nA,o4],tk 32 11 3,.box 32 ([zA,eA,zA,zA,eA,zA]++nR 4++[zA])] 5 65),
 rn [3,4] (eL 0 4 67 [(0,(rA 0)),(5,(rA 1)),(4,(rA 3))] [b83_3 0,.box 32 [(.pv (.lit (.int .i64 8))),eA,zA,zA,eA,zA,nA,(.tsym 2 3),(.tsym 4 4),nA,o5],tk 32 11 3,.box 32 ([zA,eA,zA,zA,eA,zA]++nR 4++[zA]),tk 75 16 4] 6 65),
 en117,
 en118,
 eL 0 3 76 [(3,tA),(0,(rA 0)),(4,(rA 1)),(2,(rA 2))] [b83_3 0,.box 73 (wR 3 3++[nA,o6]),.box 73 [zA,eA,zA,nA,zA]] 7 68,
 eL 0 3 76 [(3,tA),(0,(rA 0)),(4,(rA 1)),(2,(rA 2))] [b83_3 0,b73_5 3,.box 73 [zA,eA,zA,nA,zA]] 8 68,
 eL 0 3 76 [(3,fA),(0,(rA 0)),(4,(rA 1)),(2,(rA 2))] [b83_3 0,.box 73 (wR 3 3++[nA,o6]),.box 73 [zA,eA,zA,nA,zA]] 7 68,
 eL 0 3 76 [(3,fA),(0,(rA 0)),(4,(rA 1)),(2,(rA 2))] [b83_3 0,b73_5 3,.box 73 [zA,eA,zA,nA,zA]] 8 68,
 rn [6] (eL 0 3 76 [(3,tA),(0,(rA 0)),(4,(rA 1)),(2,(rA 2))] [b83_3 0,.box 73 (wR 3 3++[(.tsym 3 6),o7]),.box 73 [zA,eA,zA,nA,zA],tk 73 5 6] 8 68),
 en124,
 eF 84 [(rA 0)] [b83_3 0] 3 70,
 eF 8 [(.agg (wR 0 4)),(.agg (wR 4 4))] [] 8 71,
 eL 0 2 8 y16 [b43_4 1,b43_4 5] 9 72,
 eL 2 2 8 [(6,o0),(2,(rA 0)),(3,(rA 1))] [b43_4 1,b43_4 5] 9 73,
 eL 4 2 8 [(7,o0),(2,(rA 0)),(3,(rA 1))] [b43_4 1,b43_4 5] 9 74,
 eF 9 [(.agg (wR 0 11)),(.agg (wR 11 11))] [] 22 75,
 eL 0 2 9 y16 [b32_11 1,b32_11 12] 23 76,
 eL 2 2 9 [(6,o0),(2,(rA 0)),(3,(rA 1))] [b32_11 1,b32_11 12] 23 77,
 eF 14 [(.agg (wR 0 5)),(.agg (wR 5 5))] [] 10 78,
 eL 0 2 14 y16 [b59_5 1,b59_5 6] 11 79,
 eF 15 [(.agg (wR 0 6)),(.agg (wR 6 6))] [] 12 80,
 eL 0 2 15 y16 [b63_6 1,b63_6 7] 13 81,
 eF 16 [(.agg (wR 0 8)),(.agg (wR 8 8))] [] 16 82,
 eL 0 2 16 y16 [b67_8 1,b67_8 9] 17 83,
 eF 17 [o0,o1] [] 2 84,
 eL 0 0 17 [(5,o0),(0,o1),(1,o2)] [] 3 85,
 eF 18 [(.agg (wR 0 4)),(.agg (wR 4 4))] [] 8 86,
 eF 19 [(.agg (wR 0 5)),(.agg (wR 5 5))] [] 10 87,
 eL 0 2 19 y16 [b73_5 1,b73_5 6] 11 88,
 eF 37 [o0,o1] [] 2 89,
 eL 0 0 37 [(5,o0),(0,o1),(1,o2)] [] 3 90,
 eF 38 [o0,o1] [] 2 91,
 eL 0 0 38 [(5,o0),(0,o1),(1,o2)] [] 3 92,
 eF 5 [] [] 0 93,
 eF 20 [o0] [] 1 94,
 en150,
 en151,
 en152,
 en153,
 en154,
 en155,
 en156,
 en157,
 en158,
 en159,
 en160,
 en161,
 en162,
 en163,
 en164,
 en165,
 en166,
 en167,
 en168]
def shT:List (List Shape):=[
 [yU (.tup (wR 0 3)) 3],
 [yE .ret [(2,o0),(3,o1),(4,o2)] [] 3,yE (.exit 0) [(6,o0),(5,o1)] [] 2,yE (.exit 0) [(6,(.arr 0)),(5,o1)] [.arr 3 1 (.sym 0)] 2,yE (.exit 0) [(6,(.arr 0)),(5,(.arr 1))] [.arr 3 1 (.sym 0),.arr 3 1 (.sym 1)] 2],
 [yE (.exit 2) [(6,o0),(7,o1),(17,o2),(16,o3),(15,o4),(0,o5),(5,o6)] [] 7],
 [yE (.exit 2) [(6,(.arr 0)),(7,o1),(17,o2),(16,o3),(15,o4),(0,o5),(5,o6)] [.arr 3 1 (.sym 0)] 7,yE .ret [(2,o1),(3,o2),(4,o3)] [.arr 3 1 (.sym 0)] 4,yE (.exit 2) [(6,(.arr 1)),(7,o2),(17,o3),(16,o4),(15,o5),(0,o6),(5,(.arr 2))] [.dead,.arr 3 1 (.sym 0),.arr 3 1 (.sym 1)] 7,yE .ret [(2,o0),(3,o1),(4,o2)] [.dead] 3],
 [yE (.exit 2) [(6,(.arr 0)),(7,o2),(17,o3),(16,o4),(15,o5),(0,o6),(5,(.arr 1))] [.arr 3 1 (.sym 0),.arr 3 1 (.sym 1)] 7,yE .ret [(2,o2),(3,o3),(4,o4)] [.arr 3 1 (.sym 0),.arr 3 1 (.sym 1)] 5,yE (.exit 2) [(6,(.arr 2)),(7,o2),(17,o3),(16,o4),(15,o5),(0,o6),(5,(.arr 3))] [.dead,.dead,.arr 3 1 (.sym 0),.arr 3 1 (.sym 1)] 7,yE .ret [(2,o0),(3,o1),(4,o2)] [.dead,.dead] 3],
 [yE (.exit 5) [(5,o0)] [] 1,yE (.exit 5) [(5,(.arr 0))] [.arr 3 1 (.sym 0)] 1],
 [yE (.exit 5) [(5,(.arr 0))] [.arr 3 1 (.sym 0)] 1,yE (.exit 5) [(5,o1)] [.arr 3 1 (.sym 0)] 2,yE (.exit 5) [(5,(.arr 1))] [.dead,.arr 3 1 (.sym 0)] 1,yE (.exit 5) [(5,(.arr 1))] [.arr 3 1 (.sym 0),.arr 3 1 (.sym 1)] 2],
 [yE (.exit 5) [(5,(.arr 0))] [.arr 3 1 (.sym 0),.arr 3 1 (.sym 1)] 2,yE (.exit 5) [(5,(.arr 2))] [.dead,.arr 3 1 (.sym 0),.arr 3 1 (.sym 1)] 2],
 [yU (.tup [o0,o1]) 2],
 [yW (.agg (wR 0 7++[(.tsym 0 7)]++wR 8 3)) [tk 32 11 7] 11 [7]],
 [yU (.tup [(.agg (wR 0 4)),(.agg [o4,o5])]) 6],
 [yU (.tup [(.agg (wR 0 11)),(.agg [o11,o12])]) 13],
 [yU (.tup [(.agg (wR 0 4)),(.agg [o4,o5])]) 6],
 [yU (.tup [(.agg (wR 0 11)),(.agg [o11,o12])]) 13],
 [yV (.agg (wR 3 4)) [b83_3 0] 7,yW (.agg (wR 3 3++[(.tsym 1 6)])) [b83_3 0,tk 100 13 6] 7 [6],yW (.agg [o3,o4,(.tsym 1 5),o6]) [b83_3 0,tk 67 8 5] 7 [5],yW (.agg [o3,o4,(.tsym 1 5),(.tsym 2 6)]) [b83_3 0,tk 67 8 5,tk 100 13 6] 7 [5,6],yW (.agg [o3,(.tsym 1 4),o5,o6]) [b83_3 0,tk 63 6 4] 7 [4],yW (.agg [o3,(.tsym 1 4),o5,(.tsym 2 6)]) [b83_3 0,tk 63 6 4,tk 100 13 6] 7 [4,6],yW (.agg [o3,(.tsym 1 4),(.tsym 2 5),o6]) [b83_3 0,tk 63 6 4,tk 67 8 5] 7 [4,5],yW (.agg [o3,(.tsym 1 4),(.tsym 2 5),(.tsym 3 6)]) [b83_3 0,tk 63 6 4,tk 67 8 5,tk 100 13 6] 7 [4,5,6],yW (.agg ([(.tsym 1 3)]++wR 4 3)) [b83_3 0,tk 59 5 3] 7 [3],yW (.agg [(.tsym 1 3),o4,o5,(.tsym 2 6)]) [b83_3 0,tk 59 5 3,tk 100 13 6] 7 [3,6],yW (.agg [(.tsym 1 3),o4,(.tsym 2 5),o6]) [b83_3 0,tk 59 5 3,tk 67 8 5] 7 [3,5],yW (.agg [(.tsym 1 3),o4,(.tsym 2 5),(.tsym 3 6)]) [b83_3 0,tk 59 5 3,tk 67 8 5,tk 100 13 6] 7 [3,5,6],yW (.agg [(.tsym 1 3),(.tsym 2 4),o5,o6]) [b83_3 0,tk 59 5 3,tk 63 6 4] 7 [3,4],yW (.agg [(.tsym 1 3),(.tsym 2 4),o5,(.tsym 3 6)]) [b83_3 0,tk 59 5 3,tk 63 6 4,tk 100 13 6] 7 [3,4,6],yW (.agg [(.tsym 1 3),(.tsym 2 4),(.tsym 3 5),o6]) [b83_3 0,tk 59 5 3,tk 63 6 4,tk 67 8 5] 7 [3,4,5],yW (.agg [(.tsym 1 3),(.tsym 2 4),(.tsym 3 5),(.tsym 4 6)]) [b83_3 0,tk 59 5 3,tk 63 6 4,tk 67 8 5,tk 100 13 6] 7 [3,4,5,6],yV (.tup y0) [b83_3 0] 5],
 [yR .pan y1 [b83_3 0,.box 43 ([(.tsym 3 3)]++wR 4 3),b43_4 7,tk 59 5 3] 13 [3],yE .pan y1 [b83_3 0,b43_4 3,b43_4 7] 13,yR .pan y1 [b83_3 0,.box 43 [o3,(.tsym 3 4),o5,o6],b43_4 7,tk 63 6 4] 13 [4],yR .pan y1 [b83_3 0,.box 43 [o3,o4,(.tsym 3 5),o6],b43_4 7,tk 67 8 5] 13 [5],yR .pan y1 [b83_3 0,.box 43 (wR 3 3++[(.tsym 3 6)]),b43_4 7,tk 100 13 6] 13 [6],yE (.exit 0) y8 [b83_3 0,b43_4 3,b43_4 7] 11,yR .pan y1 y43 13 [3,4],yR .pan y1 y44 13 [3,5],yR .pan y1 y40 13 [3,6],yR (.exit 0) y8 [b83_3 0,.box 43 ([(.tsym 3 3)]++wR 4 3),b43_4 7,tk 59 5 3] 11 [3],yR .pan y1 y45 13 [4,5],yR .pan y1 y41 13 [4,6],yR (.exit 0) y8 [b83_3 0,.box 43 [o3,(.tsym 3 4),o5,o6],b43_4 7,tk 63 6 4] 11 [4],yR .pan y1 y42 13 [5,6],yR (.exit 0) y8 [b83_3 0,.box 43 [o3,o4,(.tsym 3 5),o6],b43_4 7,tk 67 8 5] 11 [5],yR (.exit 0) y8 [b83_3 0,.box 43 (wR 3 3++[(.tsym 3 6)]),b43_4 7,tk 100 13 6] 11 [6],yR .pan y1 y28 13 [3,4,5],yR .pan y1 y24 13 [3,4,6],yR (.exit 0) y8 y43 11 [3,4],yR .pan y1 y25 13 [3,5,6],yR (.exit 0) y8 y44 11 [3,5],yR (.exit 0) y8 y40 11 [3,6],yR .pan y1 y26 13 [4,5,6],yR (.exit 0) y8 y45 11 [4,5],yR (.exit 0) y8 y41 11 [4,6],yR (.exit 0) y8 y42 11 [5,6],yR .pan y1 y20 13 [3,4,5,6],yR (.exit 0) y8 y28 11 [3,4,5],yR (.exit 0) y8 y24 11 [3,4,6],yR (.exit 0) y8 y25 11 [3,5,6],yR (.exit 0) y8 y26 11 [4,5,6],yR (.exit 0) y8 y20 11 [3,4,5,6]],
 [yV (.tup y0) [b83_3 0] 5,yV (.agg (wR 3 4)) [b83_3 0] 7],
 [yV (.tup y0) [b83_3 0] 5,yV (.agg (wR 3 11)) [b83_3 0] 14],
 [yE .pan [(118,(.ifc 35 (.agg [(.pv (.sym 15)),(.pv (.sym 16))]))),(2,(rA 2))] [b83_3 0,.arr 32 11 (.sym 3),b32_11 4] 17,yE (.exit 0) [(5,o15),(0,(rA 0)),(4,o16),(3,(.arr 1)),(2,(rA 2))] [b83_3 0,.arr 32 11 (.sym 3),b32_11 4] 17,yE .pan [(118,(.ifc 35 (.agg [(.pv (.sym 14)),(.pv (.sym 15))]))),(2,(rA 2))] [b83_3 0,.dead,b32_11 3] 16,yR (.exit 0) [(5,(.tsym 3 15)),(0,(rA 0)),(4,(.tsym 4 16)),(3,(.arr 5)),(2,(rA 2))] [b83_3 0,.dead,b32_11 3,tk 9 1 15,tk 85 4 16,.arr 32 11 (.sym 14)] 17 [15,16]],
 [yE (.exit 2) [(6,o13),(9,(.arr 0)),(3,(.arr 1)),(4,o14),(2,(rA 2))] [.arr 3 1 (.sym 0),.arr 32 11 (.sym 1),b32_11 2] 15],
 [yR (.exit 2) [(6,o13),(9,(.arr 0)),(3,(.arr 1)),(4,(.tsym 2 14)),(2,(rA 3))] [.arr 3 1 (.sym 0),.arr 32 11 (.sym 1),tk 85 4 14,b32_11 2] 15 [14]],
 [yE (.exit 4) [(3,(.arr 1)),(2,(rA 2))] [.arr 3 1 (.sym 0),.arr 32 11 (.sym 1),b32_11 2] 13],
 [yR (.exit 4) [(3,(.arr 1)),(2,(rA 3))] [.arr 3 1 (.sym 0),.arr 32 11 (.sym 1),tk 85 4 13,b32_11 2] 14 [13]],
 [yE (.exit 6) [(3,(.arr 1)),(13,o13),(4,o14),(12,o15),(14,o16),(9,(.arr 0)),(77,o17),(76,o18),(75,o19),(2,(rA 2))] [.arr 3 1 (.sym 0),.arr 32 11 (.sym 1),b32_11 2] 20],
 [yR (.exit 6) [(3,(.arr 1)),(13,o13),(4,(.tsym 2 14)),(12,o15),(14,o16),(9,(.arr 0)),(77,o17),(76,o18),(75,o19),(2,(rA 3))] [.arr 3 1 (.sym 0),.arr 32 11 (.sym 1),tk 85 4 14,b32_11 2] 20 [14]],
 [yV (.agg (wR 3 4)) [b83_3 0] 7],
 [yV o3 [b83_3 0] 4],
 [yV (.agg (wR 3 5)) [b83_3 0] 8,yV (.tup y0) [b83_3 0] 5,yW (.agg (wR 3 3++[(.tsym 1 6),o7])) [b83_3 0,tk 9 1 6] 8 [6],yW (.agg [o3,o4,(.tsym 1 5),o6,o7]) [b83_3 0,tk 104 3 5] 8 [5],yW (.agg [o3,o4,(.tsym 1 5),(.tsym 2 6),o7]) [b83_3 0,tk 104 3 5,tk 9 1 6] 8 [5,6],yW (.agg ([o3,(.tsym 1 4)]++wR 5 3)) [b83_3 0,tk 9 1 4] 8 [4],yW (.agg [o3,(.tsym 1 4),o5,(.tsym 2 6),o7]) [b83_3 0,tk 9 1 4,tk 9 1 6] 8 [4,6],yW (.agg [o3,(.tsym 1 4),(.tsym 2 5),o6,o7]) [b83_3 0,tk 9 1 4,tk 104 3 5] 8 [4,5],yW (.agg [o3,(.tsym 1 4),(.tsym 2 5),(.tsym 3 6),o7]) [b83_3 0,tk 9 1 4,tk 104 3 5,tk 9 1 6] 8 [4,5,6]],
 [yE (.exit 0) y3 [b83_3 0,b59_5 3,b59_5 8] 13,yR (.exit 0) y3 [b83_3 0,.box 59 ([o3,(.tsym 3 4)]++wR 5 3),b59_5 8,tk 9 1 4] 13 [4]],
 [yR (.exit 2) y3 [b83_3 0,.box 59 [o3,o4,(.tsym 3 5),o6,o7],b59_5 8,tk 104 3 5] 13 [5],yE .pan y12 [b83_3 0,b59_5 3,b59_5 8] 15,yR .pan y12 [b83_3 0,.box 59 [o3,o4,(.tsym 3 5),o6,o7],b59_5 8,tk 104 3 5] 15 [5]],
 [yR (.exit 2) y10 y39 13 [4,5],yR .pan y12 [b83_3 0,.box 59 ([o3,(.tsym 2 4)]++wR 5 3),tk 9 1 4,b59_5 8] 15 [4],yR .pan y12 y39 15 [4,5]],
 [yE .pan y5 [b83_3 0,b104_3 3,b59_5 6,b59_5 11] 18,yE (.exit 4) [(4,(rA 2)),(6,(rA 1)),(0,(rA 0)),(2,(rA 3))] [b83_3 0,b104_3 3,b59_5 6,b59_5 11] 16,yR .pan y5 [b83_3 0,.box 104 [o3,(.tsym 4 4),o5],b59_5 6,b59_5 11,tk 27 4 4] 18 [4],yR (.exit 4) [(4,(rA 2)),(6,(rA 1)),(0,(rA 0)),(2,(rA 3))] [b83_3 0,.box 104 [o3,(.tsym 4 4),o5],b59_5 6,b59_5 11,tk 27 4 4] 16 [4]],
 [yR .pan y5 [b83_3 0,b104_3 3,.box 59 ([o6,(.tsym 3 7)]++wR 8 3),tk 9 1 7,b59_5 11] 18 [7],yR (.exit 4) y18 [b83_3 0,b104_3 3,.box 59 ([o6,(.tsym 3 7)]++wR 8 3),tk 9 1 7,b59_5 11] 16 [7],yR .pan y5 [b83_3 0,b104_3 3,.box 59 [o6,o7,(.tsym 3 8),o9,o10],tk 104 3 8,b59_5 11] 18 [8],yR (.exit 4) y18 [b83_3 0,b104_3 3,.box 59 [o6,o7,(.tsym 3 8),o9,o10],tk 104 3 8,b59_5 11] 16 [8],yR .pan y5 y22 18 [4,7],yR (.exit 4) y18 y22 16 [4,7],yR .pan y5 y23 18 [4,8],yR (.exit 4) y18 y23 16 [4,8]],
 [yR .pan y5 y31 18 [7,8],yR (.exit 4) [(4,(rA 2)),(6,(rA 1)),(0,(rA 0)),(2,(rA 5))] y31 16 [7,8],yR .pan y5 y19 18 [4,7,8],yR (.exit 4) [(4,(rA 2)),(6,(rA 1)),(0,(rA 0)),(2,(rA 5))] y19 16 [4,7,8]],
 y7,
 [yV (.agg (wR 3 6)) [b83_3 0] 9,yW (.agg (wR 3 4++[(.tsym 1 7),o8])) [b83_3 0,tk 100 13 7] 9 [7],yW (.agg (wR 3 3++[(.tsym 1 6),o7,o8])) [b83_3 0,tk 107 6 6] 9 [6],yW (.agg (wR 3 3++[(.tsym 1 6),(.tsym 2 7),o8])) [b83_3 0,tk 107 6 6,tk 100 13 7] 9 [6,7],yV (.tup y0) [b83_3 0] 5,yW (.agg ([o3,o4,(.tsym 1 5)]++wR 6 3)) [b83_3 0,tk 9 1 5] 9 [5],yW (.agg [o3,o4,(.tsym 1 5),o6,(.tsym 2 7),o8]) [b83_3 0,tk 9 1 5,tk 100 13 7] 9 [5,7],yW (.agg [o3,o4,(.tsym 1 5),(.tsym 2 6),o7,o8]) [b83_3 0,tk 9 1 5,tk 107 6 6] 9 [5,6],yW (.agg [o3,o4,(.tsym 1 5),(.tsym 2 6),(.tsym 3 7),o8]) [b83_3 0,tk 9 1 5,tk 107 6 6,tk 100 13 7] 9 [5,6,7]],
 [yE (.exit 0) y15 [b83_3 0,b63_6 3,b63_6 9] 15,yR .pan y6 [b83_3 0,.box 63 (wR 3 4++[(.tsym 3 7),o8]),b63_6 9,tk 100 13 7] 17 [7],yE .pan y6 [b83_3 0,b63_6 3,b63_6 9] 17,yR .pan y6 [b83_3 0,.box 63 (wR 3 3++[(.tsym 3 6),o7,o8]),b63_6 9,tk 107 6 6] 17 [6],yR (.exit 0) y15 [b83_3 0,.box 63 (wR 3 4++[(.tsym 3 7),o8]),b63_6 9,tk 100 13 7] 15 [7],yR .pan y6 y33 17 [6,7],yR (.exit 0) y15 [b83_3 0,.box 63 (wR 3 3++[(.tsym 3 6),o7,o8]),b63_6 9,tk 107 6 6] 15 [6],yR (.exit 0) y15 y33 15 [6,7]],
 [yR (.exit 0) y29 [b83_3 0,.box 63 ([o3,o4,(.tsym 2 5)]++wR 6 3),tk 9 1 5,b63_6 9] 15 [5],yR .pan y6 y35 17 [5,7],yR .pan y6 [b83_3 0,.box 63 ([o3,o4,(.tsym 2 5)]++wR 6 3),tk 9 1 5,b63_6 9] 17 [5],yR .pan y6 y37 17 [5,6],yR (.exit 0) y29 y35 15 [5,7],yR .pan y6 y21 17 [5,6,7],yR (.exit 0) y29 y37 15 [5,6],yR (.exit 0) y29 y21 15 [5,6,7]],
 [yV (.agg (wR 3 8)) [b83_3 0] 11,yW (.agg (wR 3 6++[(.tsym 1 9),o10])) [b83_3 0,tk 100 13 9] 11 [9],yV (.tup y0) [b83_3 0] 5,yW (.agg (wR 3 5++[(.tsym 1 8),o9,o10])) [b83_3 0,tk 109 5 8] 11 [8],yW (.agg (wR 3 5++[(.tsym 1 8),(.tsym 2 9),o10])) [b83_3 0,tk 109 5 8,tk 100 13 9] 11 [8,9]],
 [yR (.exit 0) y3 [b83_3 0,.box 67 (wR 3 5++[(.tsym 3 8),o9,o10]),b67_8 11,tk 109 5 8] 19 [8],yE .pan y9 [b83_3 0,b67_8 3,b67_8 11] 21,yR .pan y9 [b83_3 0,.box 67 (wR 3 5++[(.tsym 3 8),o9,o10]),b67_8 11,tk 109 5 8] 21 [8]],
 [yE (.exit 2) y15 [b83_3 0,b67_8 3,b67_8 11] 19,yR .pan y9 [b83_3 0,.box 67 (wR 3 6++[(.tsym 3 9),o10]),b67_8 11,tk 100 13 9] 21 [9],yE .pan y9 [b83_3 0,b67_8 3,b67_8 11] 21,yR (.exit 2) y15 [b83_3 0,.box 67 (wR 3 6++[(.tsym 3 9),o10]),b67_8 11,tk 100 13 9] 19 [9]],
 [yR (.exit 2) y29 [b83_3 0,.box 67 (wR 3 5++[(.tsym 2 8),o9,o10]),tk 109 5 8,b67_8 11] 19 [8],yR .pan y9 y32 21 [8,9],yR .pan y9 [b83_3 0,.box 67 (wR 3 5++[(.tsym 2 8),o9,o10]),tk 109 5 8,b67_8 11] 21 [8],yR (.exit 2) y29 y32 19 [8,9]],
 [yV (.agg (wR 3 13)) [b83_3 0] 16,yV (.tup y0) [b83_3 0] 5],
 [yV (.tup y0) [b83_3 0] 5],
 [yV (.agg (wR 3 4)) [b83_3 0] 7],
 [yV (.tup y0) [b83_3 0] 5,yV (.fn 43 [(.ptr 1 0)]) [b83_3 0,.box 52 [(rA 0)]] 3],
 [yV (.agg (wR 3 11)) [b83_3 0] 14,yV (.tup y0) [b83_3 0] 5,yW (.agg (wR 3 7++[(.tsym 1 10)]++wR 11 3)) [b83_3 0,tk 32 11 10] 14 [10],yW (.agg (wR 3 9++[(.tsym 1 12),o13])) [b83_3 0,tk 100 13 12] 14 [12],yW (.agg (wR 3 8++[(.tsym 1 11),o12,o13])) [b83_3 0,tk 75 16 11] 14 [11],yW (.agg (wR 3 8++[(.tsym 1 11),(.tsym 2 12),o13])) [b83_3 0,tk 75 16 11,tk 100 13 12] 14 [11,12],yW (.agg (wR 3 7++[(.tsym 1 10),o11,(.tsym 2 12),o13])) [b83_3 0,tk 32 11 10,tk 100 13 12] 14 [10,12],yW (.agg (wR 3 7++[(.tsym 1 10),(.tsym 2 11),o12,o13])) [b83_3 0,tk 32 11 10,tk 75 16 11] 14 [10,11],yW (.agg (wR 3 7++[(.tsym 1 10),(.tsym 2 11),(.tsym 3 12),o13])) [b83_3 0,tk 32 11 10,tk 75 16 11,tk 100 13 12] 14 [10,11,12],yW (.agg (wR 3 6++[(.tsym 1 9)]++wR 10 4)) [b83_3 0,tk 27 4 9] 14 [9],yW (.agg (wR 3 6++[(.tsym 1 9),o10,o11,(.tsym 2 12),o13])) [b83_3 0,tk 27 4 9,tk 100 13 12] 14 [9,12],yW (.agg (wR 3 6++[(.tsym 1 9),o10,(.tsym 2 11),o12,o13])) [b83_3 0,tk 27 4 9,tk 75 16 11] 14 [9,11],yW (.agg (wR 3 6++[(.tsym 1 9),o10,(.tsym 2 11),(.tsym 3 12),o13])) [b83_3 0,tk 27 4 9,tk 75 16 11,tk 100 13 12] 14 [9,11,12],yW (.agg (wR 3 6++[(.tsym 1 9),(.tsym 2 10)]++wR 11 3)) [b83_3 0,tk 27 4 9,tk 32 11 10] 14 [9,10],yW (.agg (wR 3 6++[(.tsym 1 9),(.tsym 2 10),o11,(.tsym 3 12),o13])) [b83_3 0,tk 27 4 9,tk 32 11 10,tk 100 13 12] 14 [9,10,12],yW (.agg (wR 3 6++[(.tsym 1 9),(.tsym 2 10),(.tsym 3 11),o12,o13])) [b83_3 0,tk 27 4 9,tk 32 11 10,tk 75 16 11] 14 [9,10,11],yW (.agg (wR 3 6++[(.tsym 1 9),(.tsym 2 10),(.tsym 3 11),(.tsym 4 12),o13])) [b83_3 0,tk 27 4 9,tk 32 11 10,tk 75 16 11,tk 100 13 12] 14 [9,10,11,12]],
 [yE .pan [(80,(.ifc 35 (.agg [(.pv (.sym 29)),(.pv (.sym 30))])))] [b83_3 0,b32_11 3,b85_4 14,b32_11 18] 31,yE (.exit 1) [(6,(rA 1)),(2,(rA 3))] [b83_3 0,b32_11 3,b85_4 14,b32_11 18] 29,yR .pan [(80,(.ifc 35 (.agg [(.pv (.sym 29)),(.pv (.sym 30))])))] y34 31 [10],yR (.exit 1) [(6,(rA 1)),(2,(rA 3))] y34 29 [10]],
 [yV o3 [b83_3 0] 4],
 [yW (.tsym 1 3) [b83_3 0,tk 9 1 3] 4 [3],yV (.tup y0) [b83_3 0] 5],
 [yR .pan [(17,(.ifc 35 (.agg [(.pv (.sym 3)),(.pv (.sym 4))])))] [b83_3 0,tk 9 1 5] 6 [5],yR (.exit 0) [(3,(.tsym 1 3))] [b83_3 0,tk 9 1 3] 4 [3],yE .pan [(17,(.ifc 35 (.agg [(.pv (.sym 3)),(.pv (.sym 4))])))] [b83_3 0,.dead] 5,yR (.exit 0) [(3,(.tsym 2 3))] [b83_3 0,.dead,tk 9 1 3] 4 [3]],
 [yV o3 [b83_3 0] 4],
 y7,
 y7,
 [yW (.agg (wR 3 3++[(.tsym 1 6)])) [b83_3 0,tk 27 4 6] 7 [6],yV (.tup y0) [b83_3 0] 5,yV (.agg (wR 3 4)) [b83_3 0] 7],
 [yV (.agg (wR 3 11)) [b83_3 0] 14,yW (.agg (wR 3 9++[(.tsym 1 12),o13])) [b83_3 0,tk 100 13 12] 14 [12],yW (.agg (wR 3 8++[(.tsym 1 11),o12,o13])) [b83_3 0,tk 75 16 11] 14 [11],yW (.agg (wR 3 8++[(.tsym 1 11),(.tsym 2 12),o13])) [b83_3 0,tk 75 16 11,tk 100 13 12] 14 [11,12],yW (.agg (wR 3 7++[(.tsym 1 10)]++wR 11 3)) [b83_3 0,tk 32 11 10] 14 [10],yW (.agg (wR 3 7++[(.tsym 1 10),o11,(.tsym 2 12),o13])) [b83_3 0,tk 32 11 10,tk 100 13 12] 14 [10,12],yW (.agg (wR 3 7++[(.tsym 1 10),(.tsym 2 11),o12,o13])) [b83_3 0,tk 32 11 10,tk 75 16 11] 14 [10,11],yW (.agg (wR 3 7++[(.tsym 1 10),(.tsym 2 11),(.tsym 3 12),o13])) [b83_3 0,tk 32 11 10,tk 75 16 11,tk 100 13 12] 14 [10,11,12],yW (.agg (wR 3 6++[(.tsym 1 9)]++wR 10 4)) [b83_3 0,tk 27 4 9] 14 [9],yW (.agg (wR 3 6++[(.tsym 1 9),o10,o11,(.tsym 2 12),o13])) [b83_3 0,tk 27 4 9,tk 100 13 12] 14 [9,12],yW (.agg (wR 3 6++[(.tsym 1 9),o10,(.tsym 2 11),o12,o13])) [b83_3 0,tk 27 4 9,tk 75 16 11] 14 [9,11],yW (.agg (wR 3 6++[(.tsym 1 9),o10,(.tsym 2 11),(.tsym 3 12),o13])) [b83_3 0,tk 27 4 9,tk 75 16 11,tk 100 13 12] 14 [9,11,12],yW (.agg (wR 3 6++[(.tsym 1 9),(.tsym 2 10)]++wR 11 3)) [b83_3 0,tk 27 4 9,tk 32 11 10] 14 [9,10],yW (.agg (wR 3 6++[(.tsym 1 9),(.tsym 2 10),o11,(.tsym 3 12),o13])) [b83_3 0,tk 27 4 9,tk 32 11 10,tk 100 13 12] 14 [9,10,12],yW (.agg (wR 3 6++[(.tsym 1 9),(.tsym 2 10),(.tsym 3 11),o12,o13])) [b83_3 0,tk 27 4 9,tk 32 11 10,tk 75 16 11] 14 [9,10,11],yW (.agg (wR 3 6++[(.tsym 1 9),(.tsym 2 10),(.tsym 3 11),(.tsym 4 12),o13])) [b83_3 0,tk 27 4 9,tk 32 11 10,tk 75 16 11,tk 100 13 12] 14 [9,10,11,12],yV (.tup y0) [b83_3 0] 5],
 [yR (.exit 0) [(0,(rA 0)),(5,(.tsym 1 14)),(1,o15),(4,(rA 2))] [b83_3 0,tk 85 4 14,b32_11 3] 16 [14],yR (.exit 0) [(0,(rA 0)),(5,(.tsym 3 14)),(1,o15),(4,(rA 2))] [b83_3 0,.dead,b32_11 3,tk 85 4 14] 16 [14]],
 [yR (.exit 2) [(1,o22),(6,(rA 1)),(4,(rA 2))] [tk 85 4 23,b32_11 0,b32_11 11] 24 [23],yR (.exit 2) [(1,o22),(6,(rA 1)),(4,(rA 2))] [tk 85 4 23,.box 32 (wR 0 7++[(.tsym 3 7)]++wR 8 3),b32_11 11,tk 32 11 7] 24 [7,23]],
 [yW (.agg (wR 3 7++[(.tsym 1 10),o11,(.tsym 2 12),o13])) [b83_3 0,tk 32 11 10,tk 100 13 12] 14 [10,12],yV (.tup y0) [b83_3 0] 5],
 [yR .pan y13 [b83_3 0,.box 32 (wR 3 9++[(.tsym 2 12),o13]),tk 100 13 12,b32_11 14] 27 [12],yR (.exit 0) y14 [b83_3 0,.box 32 (wR 3 9++[(.tsym 2 12),o13]),tk 100 13 12,b32_11 14] 25 [12],yR .pan y13 y46 27 [12],yR (.exit 0) y14 y46 25 [12]],
 y4,
 [yV o3 [b83_3 0] 4],
 [yV (.agg (wR 3 4)) [b83_3 0] 7,yV (.tup y0) [b83_3 0] 5,yW (.agg (wR 3 3++[(.tsym 1 6)])) [b83_3 0,tk 27 4 6] 7 [6]],
 [yE .pan [(26,(.ifc 35 (.agg [(.pv (.sym 11)),(.pv (.sym 12))])))] [b83_3 0,b27_4 3,b27_4 7] 13,yE (.exit 0) y8 [b83_3 0,b27_4 3,b27_4 7] 11,yR .pan [(26,(.ifc 35 (.agg [(.pv (.sym 11)),(.pv (.sym 12))])))] [b83_3 0,.box 27 (wR 3 3++[(.tsym 3 6)]),b27_4 7,tk 27 4 6] 13 [6],yR (.exit 0) y8 [b83_3 0,.box 27 (wR 3 3++[(.tsym 3 6)]),b27_4 7,tk 27 4 6] 11 [6]],
 [yW (.agg (wR 3 7++[(.tsym 1 10)]++wR 11 3)) [b83_3 0,tk 32 11 10] 14 [10],yV (.tup y0) [b83_3 0] 5,yW (.agg (wR 3 7++[(.tsym 1 10),(.tsym 2 11),o12,o13])) [b83_3 0,tk 32 11 10,tk 75 16 11] 14 [10,11]],
 [yR (.exit 0) [(0,(rA 0)),(5,(rA 1)),(4,(rA 3))] y27 25 [10,11],yR .pan y13 [b83_3 0,.box 32 (wR 3 7++[(.tsym 2 10)]++wR 11 3),tk 32 11 10,b32_11 14] 27 [10],yR .pan y13 y27 27 [10,11]],
 [yV (.agg (wR 3 11)) [b83_3 0] 14,yV (.tup y0) [b83_3 0] 5,yW (.agg (wR 3 7++[(.tsym 1 10)]++wR 11 3)) [b83_3 0,tk 32 11 10] 14 [10]],
 [yV (.agg (wR 3 5)) [b83_3 0] 8,yW (.agg (wR 3 3++[(.tsym 1 6),o7])) [b83_3 0,tk 73 5 6] 8 [6],yV (.tup y0) [b83_3 0] 5],
 [yE .pan [(28,(.ifc 35 (.agg [(.pv (.sym 13)),(.pv (.sym 14))]))),(2,(rA 2))] [b83_3 0,b73_5 3,b73_5 8] 15,yE (.exit 0) y15 [b83_3 0,b73_5 3,b73_5 8] 13,yR .pan [(28,(.ifc 35 (.agg [(.pv (.sym 13)),(.pv (.sym 14))]))),(2,(rA 2))] [b83_3 0,.box 73 (wR 3 3++[(.tsym 3 6),o7]),b73_5 8,tk 73 5 6] 15 [6],yR (.exit 0) y15 [b83_3 0,.box 73 (wR 3 3++[(.tsym 3 6),o7]),b73_5 8,tk 73 5 6] 13 [6]],
 y11,
 [yV o3 [b83_3 0] 4],
 [yU o0 1],
 [yE .ret [(4,o8)] [b43_4 0,b43_4 4] 9,yE (.exit 0) [(2,(rA 0)),(3,(rA 1))] [b43_4 0,b43_4 4] 8],
 [yE .ret [(4,o8)] [b43_4 0,b43_4 4] 9,yE (.exit 2) [(2,(rA 0)),(3,(rA 1))] [b43_4 0,b43_4 4] 8],
 [yE .ret [(4,o8)] [b43_4 0,b43_4 4] 9,yE (.exit 4) [(2,(rA 0)),(3,(rA 1))] [b43_4 0,b43_4 4] 8],
 [yU o0 1],
 [yE .ret [(4,o22)] [b32_11 0,b32_11 11] 23,yE (.exit 0) [(2,(rA 0)),(3,(rA 1))] [b32_11 0,b32_11 11] 22],
 [yE .ret [(4,o22)] [b32_11 0,b32_11 11] 23,yE (.exit 2) [] [b32_11 0,b32_11 11] 22],
 [yU o0 1],
 [yE .ret [(4,o10)] [b59_5 0,b59_5 5] 11,yE (.exit 0) [] [b59_5 0,b59_5 5] 10],
 [yU o0 1],
 [yE .ret [(4,o12)] [b63_6 0,b63_6 6] 13,yE (.exit 0) [(2,(rA 0)),(3,(rA 1))] [b63_6 0,b63_6 6] 12],
 [yU o0 1],
 [yE .ret [(4,o16)] [b67_8 0,b67_8 8] 17,yE (.exit 0) [(2,(rA 0)),(3,(rA 1))] [b67_8 0,b67_8 8] 16],
 [yU o0 1],
 y38,
 [yU o0 1],
 [yU o0 1],
 [yE .ret [(4,o10)] [b73_5 0,b73_5 5] 11,yE (.exit 0) [] [b73_5 0,b73_5 5] 10],
 [yU o0 1],
 y38,
 [yU o0 1],
 y38,
 [yU o0 1],
 [yU (.tup [o0,(.agg [o1,o2])]) 3],
 y7,
 y4,
 y11,
 [yV (.agg (wR 3 6)) [b83_3 0] 9,yV (.tup y0) [b83_3 0] 5],
 [yV (.agg (wR 3 8)) [b83_3 0] 11,yV (.tup y0) [b83_3 0] 5],
 [yV (.agg (wR 3 13)) [b83_3 0] 16,yV (.tup y0) [b83_3 0] 5],
 y4,
 [yU (.agg (wR 0 11)) 11],
 [yV o3 [b83_3 0] 4,yV (.tup y0) [b83_3 0] 5],
 y7,
 y7,
 y4,
 y4,
 y4,
 y7,
 y4,
 y4,
 y11,
 y11]
noncomputable def etL:List Et:=[k1 g27,k4 g27b0a,k5 g27b0b,k6 g27b0c,k7 g27b2a,k8 g27b2b,k9 g27b2c,k9 g27b2d,k9 g27b2e,k1 g27b5a,k2 g27b5b,k2 g27b5c,k3 g27b5d,k2 g27b5e,k2 g27b5f,k3 g27b5g,k3 g27b5h,k1 g49,k26 g29,k1 g7,k1 g6,k1 g12a,k1 g10a,k3 g13a,k3 g13ab0a,k4 g13ab0b,k4 g13ab0c,k4 g13ab0d,k4 g13ab0e,k5 g13ab0f,k5 g13ab0g,k5 g13ab0h,k5 g13ab0i,k5 g13ab0j,k5 g13ab0k,k6 g13ab0l,k6 g13ab0m,k6 g13ab0n,k6 g13ab0o,k7 g13ab0p,k4 g22a,k3 g11a,k4 g11ab0a,k6 g11ab0b,k5 g11ab2a,k6 g11ab2b,k5 g11ab4a,k6 g11ab4b,k8 g11ab6a,k9 g11ab6b,k3 g25a,k4 g31a,k3 g32a,k5 g32ab0a,k6 g32ab0b,k5 g32ab2a,k6 g32ab2b,k6 g32ab2c,k7 g32ab2d,k7 g32ab4a,k8 g32ab4b,k8 g32ab4c,k9 g32ab4d,k8 g32ab4e,k9 g32ab4f,k9 g32ab4g,k10 g32ab4h,k4 g35a,k3 g33a,k6 g33ab0a,k7 g33ab0b,k7 g33ab0c,k7 g33ab0d,k8 g33ab0e,k8 g33ab0f,k8 g33ab0g,k9 g33ab0h,k3 g34a,k9 g34ab0a,k10 g34ab0b,k9 g34ab2a,k10 g34ab2b,k10 g34ab2c,k11 g34ab2d,k3 g36a,k5 g28a,k3 g26a,k3 g23a,k3 g24a,k18 g24ab1a,k9 g24ab1b,k4 g44a,k3 g52a,k4 g52ab0a,k4 g52ab0b,k3 g50a,k3 g51a,k3 g53a,k3 g54a,k4 g45a,k5 g45ab0a,k5 g45ab0b,k14 g45ab2a,k6 g45ab2b,k3 g46a,k5 g46ab0a,k5 g46ab0b,k5 g46ab0c,k5 g46ab0d,k3 g47a,k3 g48a,k3 g69a,k4 g69ab0a,k5 g69ab0b,k4 g67a,k5 g67ab0a,k6 g67ab0b,k4 g68a,k3 g76a,k7 g76ab0a,k8 g76ab0b,k7 g76ab0c,k8 g76ab0d,k8 g76ab0e,k3 g83a,k3 g84a,k8 g8,k9 g8b0a,k9 g8b2a,k9 g8b4a,k22 g9,k23 g9b0a,k23 g9b2a,k10 g14,k11 g14b0a,k12 g15,k13 g15b0a,k16 g16,k17 g16b0a,k2 g17,k3 g17b0a,k8 g18,k10 g19,k11 g19b0a,k2 g37,k3 g37b0a,k2 g38,k3 g38b0a,.ext awkP,.ext scnP,etNo,etNo,etNo,etNo,etNo,etNo,etNo,etNo,etNo,etNo,etNo,etNo,etNo,etNo,etNo,etNo,etNo,etNo,etNo]
def SS:Nat→List Shape:=nth [] shT
def EE:Nat→Ent:=nth dEn enL
noncomputable def TT:Nat→Et:=nth etNo etL
noncomputable abbrev ev:Q→Option Rs:=Evl PG EE TT
abbrev RK(k:Nat):Prop:=RuleOk PG SS EE TT k
abbrev q27(a:PV):Q:=⟨0,[a]⟩
abbrev q27b0a(a b c d:PV):Q:=⟨1,[a,b,c,d]⟩
abbrev q27b0b(a b c d e:PV):Q:=⟨2,[a,b,c,d,e]⟩
abbrev q27b0c(a b c d e f:PV):Q:=⟨3,[a,b,c,d,e,f]⟩
abbrev q27b2a(a b c d e f g:PV):Q:=⟨4,[a,b,c,d,e,f,g]⟩
abbrev q27b2b(a b c d e f g h:PV):Q:=⟨5,[a,b,c,d,e,f,g,h]⟩
abbrev q27b2c(a b c d e f g h i:PV):Q:=⟨6,[a,b,c,d,e,f,g,h,i]⟩
abbrev q27b2d(a b c d e f g h i:PV):Q:=⟨7,[a,b,c,d,e,f,g,h,i]⟩
abbrev q27b2e(a b c d e f g h i:PV):Q:=⟨8,[a,b,c,d,e,f,g,h,i]⟩
abbrev q27b5a(a:PV):Q:=⟨9,[a]⟩
abbrev q27b5c(a b:PV):Q:=⟨11,[a,b]⟩
abbrev q27b5d(a b c:PV):Q:=⟨12,[a,b,c]⟩
abbrev q27b5g(a b c:PV):Q:=⟨15,[a,b,c]⟩
abbrev q27b5h(a b c:PV):Q:=⟨16,[a,b,c]⟩
abbrev q49(a:PV):Q:=⟨17,[a]⟩
abbrev q29(a b c d e f g h i j k l m n o p q r s t u v w x y z:PV):Q:=⟨18,[a,b,c,d,e,f,g,h,i,j,k,l,m,n,o,p,q,r,s,t,u,v,w,x,y,z]⟩
abbrev q7(a:PV):Q:=⟨19,[a]⟩
abbrev q6(a:PV):Q:=⟨20,[a]⟩
abbrev q12a(a:PV):Q:=⟨21,[a]⟩
abbrev q10a(a:PV):Q:=⟨22,[a]⟩
abbrev q13a(a b c:PV):Q:=⟨23,[a,b,c]⟩
abbrev q13ab0a(a b c:PV):Q:=⟨24,[a,b,c]⟩
abbrev q13ab0b(a b c:PV)(d:List (List PV)):Q:=⟨25,[a,b,c,.rows d]⟩
abbrev q13ab0c(a b c:PV)(d:List (List PV)):Q:=⟨26,[a,b,c,.rows d]⟩
abbrev q13ab0d(a b c:PV)(d:List (List PV)):Q:=⟨27,[a,b,c,.rows d]⟩
abbrev q13ab0e(a b c:PV)(d:List (List PV)):Q:=⟨28,[a,b,c,.rows d]⟩
abbrev q13ab0f(a b c:PV)(d e:List (List PV)):Q:=⟨29,[a,b,c,.rows d,.rows e]⟩
abbrev q13ab0g(a b c:PV)(d e:List (List PV)):Q:=⟨30,[a,b,c,.rows d,.rows e]⟩
abbrev q13ab0h(a b c:PV)(d e:List (List PV)):Q:=⟨31,[a,b,c,.rows d,.rows e]⟩
abbrev q13ab0i(a b c:PV)(d e:List (List PV)):Q:=⟨32,[a,b,c,.rows d,.rows e]⟩
abbrev q13ab0j(a b c:PV)(d e:List (List PV)):Q:=⟨33,[a,b,c,.rows d,.rows e]⟩
abbrev q13ab0k(a b c:PV)(d e:List (List PV)):Q:=⟨34,[a,b,c,.rows d,.rows e]⟩
abbrev q13ab0l(a b c:PV)(d e f:List (List PV)):Q:=⟨35,[a,b,c,.rows d,.rows e,.rows f]⟩
abbrev q13ab0m(a b c:PV)(d e f:List (List PV)):Q:=⟨36,[a,b,c,.rows d,.rows e,.rows f]⟩
abbrev q13ab0n(a b c:PV)(d e f:List (List PV)):Q:=⟨37,[a,b,c,.rows d,.rows e,.rows f]⟩
abbrev q13ab0o(a b c:PV)(d e f:List (List PV)):Q:=⟨38,[a,b,c,.rows d,.rows e,.rows f]⟩
abbrev q13ab0p(a b c:PV)(d e f g:List (List PV)):Q:=⟨39,[a,b,c,.rows d,.rows e,.rows f,.rows g]⟩
abbrev q22a(a b c d:PV):Q:=⟨40,[a,b,c,d]⟩
abbrev q11a(a b c:PV):Q:=⟨41,[a,b,c]⟩
abbrev q11ab0a(a b c d:PV):Q:=⟨42,[a,b,c,d]⟩
abbrev q11ab0b(a b:List (List PV))(c d e f:PV):Q:=⟨43,[.rows a,.rows b,c,d,e,f]⟩
abbrev q11ab2a(a b c d e:PV):Q:=⟨44,[a,b,c,d,e]⟩
abbrev q11ab2b(a b c:PV)(d:List (List PV))(e f:PV):Q:=⟨45,[a,b,c,.rows d,e,f]⟩
abbrev q11ab4a(a b c d e:PV):Q:=⟨46,[a,b,c,d,e]⟩
abbrev q11ab4b(a b c:PV)(d:List (List PV))(e f:PV):Q:=⟨47,[a,b,c,.rows d,e,f]⟩
abbrev q11ab6b(a:PV)(b:List (List PV))(c d e f g h i:PV):Q:=⟨49,[a,.rows b,c,d,e,f,g,h,i]⟩
abbrev q25a(a b c:PV):Q:=⟨50,[a,b,c]⟩
abbrev q31a(a b c d:PV):Q:=⟨51,[a,b,c,d]⟩
abbrev q32a(a b c:PV):Q:=⟨52,[a,b,c]⟩
abbrev q32ab0a(a b c d e:PV):Q:=⟨53,[a,b,c,d,e]⟩
abbrev q32ab0b(a b c d:PV)(e:List (List PV))(f:PV):Q:=⟨54,[a,b,c,d,.rows e,f]⟩
abbrev q32ab2a(a b c d e:PV):Q:=⟨55,[a,b,c,d,e]⟩
abbrev q32ab2b(a b c d:PV)(e:List (List PV))(f:PV):Q:=⟨56,[a,b,c,d,.rows e,f]⟩
abbrev q32ab2c(a b c d:PV)(e:List (List PV))(f:PV):Q:=⟨57,[a,b,c,d,.rows e,f]⟩
abbrev q32ab2d(a b c d:PV)(e f:List (List PV))(g:PV):Q:=⟨58,[a,b,c,d,.rows e,.rows f,g]⟩
abbrev q32ab4a(a b c d e f g:PV):Q:=⟨59,[a,b,c,d,e,f,g]⟩
abbrev q32ab4b(a b c d e f:PV)(g:List (List PV))(h:PV):Q:=⟨60,[a,b,c,d,e,f,.rows g,h]⟩
abbrev q32ab4c(a b c d e f:PV)(g:List (List PV))(h:PV):Q:=⟨61,[a,b,c,d,e,f,.rows g,h]⟩
abbrev q32ab4d(a b c d e f:PV)(g h:List (List PV))(i:PV):Q:=⟨62,[a,b,c,d,e,f,.rows g,.rows h,i]⟩
abbrev q32ab4e(a b c d:PV)(e:List (List PV))(f g h:PV):Q:=⟨63,[a,b,c,d,.rows e,f,g,h]⟩
abbrev q32ab4f(a b c d:PV)(e:List (List PV))(f g:PV)(h:List (List PV))(i:PV):Q:=⟨64,[a,b,c,d,.rows e,f,g,.rows h,i]⟩
abbrev q32ab4g(a b c d:PV)(e:List (List PV))(f g:PV)(h:List (List PV))(i:PV):Q:=⟨65,[a,b,c,d,.rows e,f,g,.rows h,i]⟩
abbrev q32ab4h(a b c d:PV)(e:List (List PV))(f g:PV)(h i:List (List PV))(j:PV):Q:=⟨66,[a,b,c,d,.rows e,f,g,.rows h,.rows i,j]⟩
abbrev q35a(a b c d:PV):Q:=⟨67,[a,b,c,d]⟩
abbrev q33a(a b c:PV):Q:=⟨68,[a,b,c]⟩
abbrev q33ab0a(a b c d e f:PV):Q:=⟨69,[a,b,c,d,e,f]⟩
abbrev q33ab0b(a b c d e:PV)(f:List (List PV))(g:PV):Q:=⟨70,[a,b,c,d,e,.rows f,g]⟩
abbrev q33ab0c(a b c d e:PV)(f:List (List PV))(g:PV):Q:=⟨71,[a,b,c,d,e,.rows f,g]⟩
abbrev q33ab0d(a b c d e:PV)(f:List (List PV))(g:PV):Q:=⟨72,[a,b,c,d,e,.rows f,g]⟩
abbrev q33ab0e(a b c d e:PV)(f g:List (List PV))(h:PV):Q:=⟨73,[a,b,c,d,e,.rows f,.rows g,h]⟩
abbrev q33ab0f(a b c d e:PV)(f g:List (List PV))(h:PV):Q:=⟨74,[a,b,c,d,e,.rows f,.rows g,h]⟩
abbrev q33ab0g(a b c d e:PV)(f g:List (List PV))(h:PV):Q:=⟨75,[a,b,c,d,e,.rows f,.rows g,h]⟩
abbrev q33ab0h(a b c d e:PV)(f g h:List (List PV))(i:PV):Q:=⟨76,[a,b,c,d,e,.rows f,.rows g,.rows h,i]⟩
abbrev q34a(a b c:PV):Q:=⟨77,[a,b,c]⟩
abbrev q34ab0a(a b c d e f g h i:PV):Q:=⟨78,[a,b,c,d,e,f,g,h,i]⟩
abbrev q34ab0b(a b c d e f g h:PV)(i:List (List PV))(j:PV):Q:=⟨79,[a,b,c,d,e,f,g,h,.rows i,j]⟩
abbrev q34ab2a(a b c d e f g h i:PV):Q:=⟨80,[a,b,c,d,e,f,g,h,i]⟩
abbrev q34ab2b(a b c d e f g h:PV)(i:List (List PV))(j:PV):Q:=⟨81,[a,b,c,d,e,f,g,h,.rows i,j]⟩
abbrev q34ab2c(a b c d e f g h:PV)(i:List (List PV))(j:PV):Q:=⟨82,[a,b,c,d,e,f,g,h,.rows i,j]⟩
abbrev q34ab2d(a b c d e f g h:PV)(i j:List (List PV))(k:PV):Q:=⟨83,[a,b,c,d,e,f,g,h,.rows i,.rows j,k]⟩
abbrev q36a(a b c:PV):Q:=⟨84,[a,b,c]⟩
abbrev q28a(a b c d e:PV):Q:=⟨85,[a,b,c,d,e]⟩
abbrev q26a(a b c:PV):Q:=⟨86,[a,b,c]⟩
abbrev q23a(a b c:PV):Q:=⟨87,[a,b,c]⟩
abbrev q24a(a b c:PV):Q:=⟨88,[a,b,c]⟩
abbrev q24ab1a(a b c d e f g h i j k l m n o p q r:PV):Q:=⟨89,[a,b,c,d,e,f,g,h,i,j,k,l,m,n,o,p,q,r]⟩
abbrev q24ab1b(a b c:PV)(d:List (List PV))(e f g h i:PV):Q:=⟨90,[a,b,c,.rows d,e,f,g,h,i]⟩
abbrev q44a(a b c d:PV):Q:=⟨91,[a,b,c,d]⟩
abbrev q52a(a b c:PV):Q:=⟨92,[a,b,c]⟩
abbrev q52ab0a(a:List (List PV))(b c d:PV):Q:=⟨93,[.rows a,b,c,d]⟩
abbrev q52ab0b(a:List (List PV))(b c d:PV):Q:=⟨94,[.rows a,b,c,d]⟩
abbrev q50a(a b c:PV):Q:=⟨95,[a,b,c]⟩
abbrev q51a(a b c:PV):Q:=⟨96,[a,b,c]⟩
abbrev q53a(a b c:PV):Q:=⟨97,[a,b,c]⟩
abbrev q54a(a b c:PV):Q:=⟨98,[a,b,c]⟩
abbrev q45a(a b c d:PV):Q:=⟨99,[a,b,c,d]⟩
abbrev q45ab0a(a:List (List PV))(b c d e:PV):Q:=⟨100,[.rows a,b,c,d,e]⟩
abbrev q45ab0b(a:List (List PV))(b c d e:PV):Q:=⟨101,[.rows a,b,c,d,e]⟩
abbrev q45ab2a(a:PV)(b:List (List PV))(c d e f g h i j k l m n:PV):Q:=⟨102,[a,.rows b,c,d,e,f,g,h,i,j,k,l,m,n]⟩
abbrev q45ab2b(a:PV)(b:List (List PV))(c d:PV)(e:List (List PV))(f:PV):Q:=⟨103,[a,.rows b,c,d,.rows e,f]⟩
abbrev q46a(a b c:PV):Q:=⟨104,[a,b,c]⟩
abbrev q46ab0a(a b c:PV)(d:List (List PV))(e:PV):Q:=⟨105,[a,b,c,.rows d,e]⟩
abbrev q46ab0b(a b c:PV)(d:List (List PV))(e:PV):Q:=⟨106,[a,b,c,.rows d,e]⟩
abbrev q46ab0c(a b c:PV)(d:List (List PV))(e:PV):Q:=⟨107,[a,b,c,.rows d,e]⟩
abbrev q46ab0d(a b c:PV)(d:List (List PV))(e:PV):Q:=⟨108,[a,b,c,.rows d,e]⟩
abbrev q47a(a b c:PV):Q:=⟨109,[a,b,c]⟩
abbrev q48a(a b c:PV):Q:=⟨110,[a,b,c]⟩
abbrev q69a(a b c:PV):Q:=⟨111,[a,b,c]⟩
abbrev q69ab0a(a b c d:PV):Q:=⟨112,[a,b,c,d]⟩
abbrev q69ab0b(a b c d:PV)(e:List (List PV)):Q:=⟨113,[a,b,c,d,.rows e]⟩
abbrev q67a(a b c d:PV):Q:=⟨114,[a,b,c,d]⟩
abbrev q67ab0a(a b c:PV)(d:List (List PV))(e:PV):Q:=⟨115,[a,b,c,.rows d,e]⟩
abbrev q67ab0b(a b c:PV)(d e:List (List PV))(f:PV):Q:=⟨116,[a,b,c,.rows d,.rows e,f]⟩
abbrev q68a(a b c d:PV):Q:=⟨117,[a,b,c,d]⟩
abbrev q76a(a b c:PV):Q:=⟨118,[a,b,c]⟩
abbrev q76ab0a(a b c d e f g:PV):Q:=⟨119,[a,b,c,d,e,f,g]⟩
abbrev q76ab0c(a b c d e f g:PV):Q:=⟨121,[a,b,c,d,e,f,g]⟩
abbrev q76ab0d(a b c d e f g h:PV):Q:=⟨122,[a,b,c,d,e,f,g,h]⟩
abbrev q76ab0e(a b c d e f:PV)(g:List (List PV))(h:PV):Q:=⟨123,[a,b,c,d,e,f,.rows g,h]⟩
abbrev q83a(a b c:PV):Q:=⟨124,[a,b,c]⟩
abbrev q84a(a b c:PV):Q:=⟨125,[a,b,c]⟩
abbrev q8(a b c d e f g h:PV):Q:=⟨126,[a,b,c,d,e,f,g,h]⟩
abbrev q8b0a(a b c d e f g h i:PV):Q:=⟨127,[a,b,c,d,e,f,g,h,i]⟩
abbrev q8b2a(a b c d e f g h i:PV):Q:=⟨128,[a,b,c,d,e,f,g,h,i]⟩
abbrev q8b4a(a b c d e f g h i:PV):Q:=⟨129,[a,b,c,d,e,f,g,h,i]⟩
abbrev q9(a b c d e f g h i j k l m n o p q r s t u v:PV):Q:=⟨130,[a,b,c,d,e,f,g,h,i,j,k,l,m,n,o,p,q,r,s,t,u,v]⟩
abbrev q9b0a(a b c d e f g h i j k l m n o p q r s t u v w:PV):Q:=⟨131,[a,b,c,d,e,f,g,h,i,j,k,l,m,n,o,p,q,r,s,t,u,v,w]⟩
abbrev q9b2a(a b c d e f g h i j k l m n o p q r s t u v w:PV):Q:=⟨132,[a,b,c,d,e,f,g,h,i,j,k,l,m,n,o,p,q,r,s,t,u,v,w]⟩
abbrev q14(a b c d e f g h i j:PV):Q:=⟨133,[a,b,c,d,e,f,g,h,i,j]⟩
abbrev q14b0a(a b c d e f g h i j k:PV):Q:=⟨134,[a,b,c,d,e,f,g,h,i,j,k]⟩
abbrev q15(a b c d e f g h i j k l:PV):Q:=⟨135,[a,b,c,d,e,f,g,h,i,j,k,l]⟩
abbrev q15b0a(a b c d e f g h i j k l m:PV):Q:=⟨136,[a,b,c,d,e,f,g,h,i,j,k,l,m]⟩
abbrev q16(a b c d e f g h i j k l m n o p:PV):Q:=⟨137,[a,b,c,d,e,f,g,h,i,j,k,l,m,n,o,p]⟩
abbrev q16b0a(a b c d e f g h i j k l m n o p q:PV):Q:=⟨138,[a,b,c,d,e,f,g,h,i,j,k,l,m,n,o,p,q]⟩
abbrev q17(a b:PV):Q:=⟨139,[a,b]⟩
abbrev q17b0a(a b c:PV):Q:=⟨140,[a,b,c]⟩
abbrev q18(a b c d e f g h:PV):Q:=⟨141,[a,b,c,d,e,f,g,h]⟩
abbrev q19(a b c d e f g h i j:PV):Q:=⟨142,[a,b,c,d,e,f,g,h,i,j]⟩
abbrev q19b0a(a b c d e f g h i j k:PV):Q:=⟨143,[a,b,c,d,e,f,g,h,i,j,k]⟩
abbrev q37(a b:PV):Q:=⟨144,[a,b]⟩
abbrev q37b0a(a b c:PV):Q:=⟨145,[a,b,c]⟩
abbrev q38(a b:PV):Q:=⟨146,[a,b]⟩
abbrev q38b0a(a b c:PV):Q:=⟨147,[a,b,c]⟩
abbrev q20(a:PV):Q:=⟨149,[a]⟩
abbrev q13aw(a b c:PV):Q:=⟨150,[a,b,c]⟩
abbrev q11aw(a b c:PV):Q:=⟨151,[a,b,c]⟩
abbrev q32aw(a b c:PV):Q:=⟨152,[a,b,c]⟩
abbrev q33aw(a b c:PV):Q:=⟨153,[a,b,c]⟩
abbrev q34aw(a b c:PV):Q:=⟨154,[a,b,c]⟩
abbrev q36aw(a b c:PV):Q:=⟨155,[a,b,c]⟩
abbrev q24aw(a b c:PV):Q:=⟨156,[a,b,c]⟩
abbrev q29w(a b c d e f g h i j k l m n o p q r s t u v w x y z:PV):Q:=⟨157,[a,b,c,d,e,f,g,h,i,j,k,l,m,n,o,p,q,r,s,t,u,v,w,x,y,z]⟩
abbrev q52aw(a b c:PV):Q:=⟨158,[a,b,c]⟩
abbrev q51aw(a b c:PV):Q:=⟨159,[a,b,c]⟩
abbrev q54aw(a b c:PV):Q:=⟨160,[a,b,c]⟩
abbrev q45aw(a b c d:PV):Q:=⟨161,[a,b,c,d]⟩
abbrev q46aw(a b c:PV):Q:=⟨162,[a,b,c]⟩
abbrev q47aw(a b c:PV):Q:=⟨163,[a,b,c]⟩
abbrev q69aw(a b c:PV):Q:=⟨164,[a,b,c]⟩
abbrev q67aw(a b c d:PV):Q:=⟨165,[a,b,c,d]⟩
abbrev q68aw(a b c d:PV):Q:=⟨166,[a,b,c,d]⟩
abbrev q76aw(a b c:PV):Q:=⟨167,[a,b,c]⟩
abbrev q83aw(a b c:PV):Q:=⟨168,[a,b,c]⟩
set_option maxRecDepth 100000
variable(O:Q→Option Rs)
theorem h27(a):body PG EE TT O (q27 a)=g27 (T:=Sm) a O:=by kernel_rfl
theorem h27b0a(a b c d):body PG EE TT O (q27b0a a b c d)=g27b0a (T:=Sm) a b c d O:=by kernel_rfl
theorem h27b0b(a b c d e):body PG EE TT O (q27b0b a b c d e)=g27b0b (T:=Sm) a b c d e O:=by kernel_rfl
theorem h27b0c(a b c d e f):body PG EE TT O (q27b0c a b c d e f)=g27b0c (T:=Sm) a b c d e f O:=by kernel_rfl
theorem h27b2a(a b c d e f g):body PG EE TT O (q27b2a a b c d e f g)=g27b2a (T:=Sm) a b c d e f g O:=by kernel_rfl
theorem h27b2b(a b c d e f g h):body PG EE TT O (q27b2b a b c d e f g h)=g27b2b (T:=Sm) a b c d e f g h O:=by kernel_rfl
theorem h27b2c(a b c d e f g h i):body PG EE TT O (q27b2c a b c d e f g h i)=g27b2c (T:=Sm) a b c d e f g h i O:=by kernel_rfl
theorem h27b2d(a b c d e f g h i):body PG EE TT O (q27b2d a b c d e f g h i)=g27b2d (T:=Sm) a b c d e f g h i O:=by kernel_rfl
theorem h27b2e(a b c d e f g h i):body PG EE TT O (q27b2e a b c d e f g h i)=g27b2e (T:=Sm) a b c d e f g h i O:=by kernel_rfl
theorem h27b5a(a):body PG EE TT O (q27b5a a)=g27b5a (T:=Sm) a O:=by kernel_rfl
theorem h27b5c(a b):body PG EE TT O (q27b5c a b)=g27b5c (T:=Sm) a b O:=by kernel_rfl
theorem h27b5d(a b c):body PG EE TT O (q27b5d a b c)=g27b5d (T:=Sm) a b c O:=by kernel_rfl
theorem h27b5g(a b c):body PG EE TT O (q27b5g a b c)=g27b5g (T:=Sm) a b c O:=by kernel_rfl
theorem h27b5h(a b c):body PG EE TT O (q27b5h a b c)=g27b5h (T:=Sm) a b c O:=by kernel_rfl
theorem h49(a):body PG EE TT O (q49 a)=g49 (T:=Sm) a O:=by kernel_rfl
theorem h29(a b c d e f g h i j k l m n o p q r s t u v w x y z):body PG EE TT O (q29 a b c d e f g h i j k l m n o p q r s t u v w x y z)=g29 (T:=Sm) a b c d e f g h i j k l m n o p q r s t u v w x y z O:=by kernel_rfl
theorem h7(a):body PG EE TT O (q7 a)=g7 (T:=Sm) a O:=by kernel_rfl
theorem h6(a):body PG EE TT O (q6 a)=g6 (T:=Sm) a O:=by kernel_rfl
theorem h12a(a):body PG EE TT O (q12a a)=g12a (T:=Sm) a O:=by kernel_rfl
theorem h10a(a):body PG EE TT O (q10a a)=g10a (T:=Sm) a O:=by kernel_rfl
theorem h13a(a b c):body PG EE TT O (q13a a b c)=g13a (T:=Sm) a b c O:=by kernel_rfl
theorem h13ab0a(a b c):body PG EE TT O (q13ab0a a b c)=g13ab0a (T:=Sm) a b c O:=by kernel_rfl
theorem h13ab0b(a b c d):body PG EE TT O (q13ab0b a b c d)=g13ab0b (T:=Sm) a b c (.rows d) O:=by kernel_rfl
theorem h13ab0c(a b c d):body PG EE TT O (q13ab0c a b c d)=g13ab0c (T:=Sm) a b c (.rows d) O:=by kernel_rfl
theorem h13ab0d(a b c d):body PG EE TT O (q13ab0d a b c d)=g13ab0d (T:=Sm) a b c (.rows d) O:=by kernel_rfl
theorem h13ab0e(a b c d):body PG EE TT O (q13ab0e a b c d)=g13ab0e (T:=Sm) a b c (.rows d) O:=by kernel_rfl
theorem h13ab0f(a b c d e):body PG EE TT O (q13ab0f a b c d e)=g13ab0f (T:=Sm) a b c (.rows d) (.rows e) O:=by kernel_rfl
theorem h13ab0g(a b c d e):body PG EE TT O (q13ab0g a b c d e)=g13ab0g (T:=Sm) a b c (.rows d) (.rows e) O:=by kernel_rfl
theorem h13ab0h(a b c d e):body PG EE TT O (q13ab0h a b c d e)=g13ab0h (T:=Sm) a b c (.rows d) (.rows e) O:=by kernel_rfl
theorem h13ab0i(a b c d e):body PG EE TT O (q13ab0i a b c d e)=g13ab0i (T:=Sm) a b c (.rows d) (.rows e) O:=by kernel_rfl
theorem h13ab0j(a b c d e):body PG EE TT O (q13ab0j a b c d e)=g13ab0j (T:=Sm) a b c (.rows d) (.rows e) O:=by kernel_rfl
theorem h13ab0k(a b c d e):body PG EE TT O (q13ab0k a b c d e)=g13ab0k (T:=Sm) a b c (.rows d) (.rows e) O:=by kernel_rfl
theorem h13ab0l(a b c d e f):body PG EE TT O (q13ab0l a b c d e f)=g13ab0l (T:=Sm) a b c (.rows d) (.rows e) (.rows f) O:=by kernel_rfl
theorem h13ab0m(a b c d e f):body PG EE TT O (q13ab0m a b c d e f)=g13ab0m (T:=Sm) a b c (.rows d) (.rows e) (.rows f) O:=by kernel_rfl
theorem h13ab0n(a b c d e f):body PG EE TT O (q13ab0n a b c d e f)=g13ab0n (T:=Sm) a b c (.rows d) (.rows e) (.rows f) O:=by kernel_rfl
theorem h13ab0o(a b c d e f):body PG EE TT O (q13ab0o a b c d e f)=g13ab0o (T:=Sm) a b c (.rows d) (.rows e) (.rows f) O:=by kernel_rfl
theorem h13ab0p(a b c d e f g):body PG EE TT O (q13ab0p a b c d e f g)=g13ab0p (T:=Sm) a b c (.rows d) (.rows e) (.rows f) (.rows g) O:=by kernel_rfl
theorem h22a(a b c d):body PG EE TT O (q22a a b c d)=g22a (T:=Sm) a b c d O:=by kernel_rfl
theorem h11a(a b c):body PG EE TT O (q11a a b c)=g11a (T:=Sm) a b c O:=by kernel_rfl
theorem h11ab0a(a b c d):body PG EE TT O (q11ab0a a b c d)=g11ab0a (T:=Sm) a b c d O:=by kernel_rfl
theorem h11ab0b(a b c d e f):body PG EE TT O (q11ab0b a b c d e f)=g11ab0b (T:=Sm) (.rows a) (.rows b) c d e f O:=by kernel_rfl
theorem h11ab2a(a b c d e):body PG EE TT O (q11ab2a a b c d e)=g11ab2a (T:=Sm) a b c d e O:=by kernel_rfl
theorem h11ab2b(a b c d e f):body PG EE TT O (q11ab2b a b c d e f)=g11ab2b (T:=Sm) a b c (.rows d) e f O:=by kernel_rfl
theorem h11ab4a(a b c d e):body PG EE TT O (q11ab4a a b c d e)=g11ab4a (T:=Sm) a b c d e O:=by kernel_rfl
theorem h11ab4b(a b c d e f):body PG EE TT O (q11ab4b a b c d e f)=g11ab4b (T:=Sm) a b c (.rows d) e f O:=by kernel_rfl
theorem h11ab6b(a b c d e f g h i):body PG EE TT O (q11ab6b a b c d e f g h i)=g11ab6b (T:=Sm) a (.rows b) c d e f g h i O:=by kernel_rfl
theorem h25a(a b c):body PG EE TT O (q25a a b c)=g25a (T:=Sm) a b c O:=by kernel_rfl
theorem h31a(a b c d):body PG EE TT O (q31a a b c d)=g31a (T:=Sm) a b c d O:=by kernel_rfl
theorem h32a(a b c):body PG EE TT O (q32a a b c)=g32a (T:=Sm) a b c O:=by kernel_rfl
theorem h32ab0a(a b c d e):body PG EE TT O (q32ab0a a b c d e)=g32ab0a (T:=Sm) a b c d e O:=by kernel_rfl
theorem h32ab0b(a b c d e f):body PG EE TT O (q32ab0b a b c d e f)=g32ab0b (T:=Sm) a b c d (.rows e) f O:=by kernel_rfl
theorem h32ab2a(a b c d e):body PG EE TT O (q32ab2a a b c d e)=g32ab2a (T:=Sm) a b c d e O:=by kernel_rfl
theorem h32ab2b(a b c d e f):body PG EE TT O (q32ab2b a b c d e f)=g32ab2b (T:=Sm) a b c d (.rows e) f O:=by kernel_rfl
theorem h32ab2c(a b c d e f):body PG EE TT O (q32ab2c a b c d e f)=g32ab2c (T:=Sm) a b c d (.rows e) f O:=by kernel_rfl
theorem h32ab2d(a b c d e f g):body PG EE TT O (q32ab2d a b c d e f g)=g32ab2d (T:=Sm) a b c d (.rows e) (.rows f) g O:=by kernel_rfl
theorem h32ab4a(a b c d e f g):body PG EE TT O (q32ab4a a b c d e f g)=g32ab4a (T:=Sm) a b c d e f g O:=by kernel_rfl
theorem h32ab4b(a b c d e f g h):body PG EE TT O (q32ab4b a b c d e f g h)=g32ab4b (T:=Sm) a b c d e f (.rows g) h O:=by kernel_rfl
theorem h32ab4c(a b c d e f g h):body PG EE TT O (q32ab4c a b c d e f g h)=g32ab4c (T:=Sm) a b c d e f (.rows g) h O:=by kernel_rfl
theorem h32ab4d(a b c d e f g h i):body PG EE TT O (q32ab4d a b c d e f g h i)=g32ab4d (T:=Sm) a b c d e f (.rows g) (.rows h) i O:=by kernel_rfl
theorem h32ab4e(a b c d e f g h):body PG EE TT O (q32ab4e a b c d e f g h)=g32ab4e (T:=Sm) a b c d (.rows e) f g h O:=by kernel_rfl
theorem h32ab4f(a b c d e f g h i):body PG EE TT O (q32ab4f a b c d e f g h i)=g32ab4f (T:=Sm) a b c d (.rows e) f g (.rows h) i O:=by kernel_rfl
theorem h32ab4g(a b c d e f g h i):body PG EE TT O (q32ab4g a b c d e f g h i)=g32ab4g (T:=Sm) a b c d (.rows e) f g (.rows h) i O:=by kernel_rfl
theorem h32ab4h(a b c d e f g h i j):body PG EE TT O (q32ab4h a b c d e f g h i j)=g32ab4h (T:=Sm) a b c d (.rows e) f g (.rows h) (.rows i) j O:=by kernel_rfl
theorem h35a(a b c d):body PG EE TT O (q35a a b c d)=g35a (T:=Sm) a b c d O:=by kernel_rfl
theorem h33a(a b c):body PG EE TT O (q33a a b c)=g33a (T:=Sm) a b c O:=by kernel_rfl
theorem h33ab0a(a b c d e f):body PG EE TT O (q33ab0a a b c d e f)=g33ab0a (T:=Sm) a b c d e f O:=by kernel_rfl
theorem h33ab0b(a b c d e f g):body PG EE TT O (q33ab0b a b c d e f g)=g33ab0b (T:=Sm) a b c d e (.rows f) g O:=by kernel_rfl
theorem h33ab0c(a b c d e f g):body PG EE TT O (q33ab0c a b c d e f g)=g33ab0c (T:=Sm) a b c d e (.rows f) g O:=by kernel_rfl
theorem h33ab0d(a b c d e f g):body PG EE TT O (q33ab0d a b c d e f g)=g33ab0d (T:=Sm) a b c d e (.rows f) g O:=by kernel_rfl
theorem h33ab0e(a b c d e f g h):body PG EE TT O (q33ab0e a b c d e f g h)=g33ab0e (T:=Sm) a b c d e (.rows f) (.rows g) h O:=by kernel_rfl
theorem h33ab0f(a b c d e f g h):body PG EE TT O (q33ab0f a b c d e f g h)=g33ab0f (T:=Sm) a b c d e (.rows f) (.rows g) h O:=by kernel_rfl
theorem h33ab0g(a b c d e f g h):body PG EE TT O (q33ab0g a b c d e f g h)=g33ab0g (T:=Sm) a b c d e (.rows f) (.rows g) h O:=by kernel_rfl
theorem h33ab0h(a b c d e f g h i):body PG EE TT O (q33ab0h a b c d e f g h i)=g33ab0h (T:=Sm) a b c d e (.rows f) (.rows g) (.rows h) i O:=by kernel_rfl
theorem h34a(a b c):body PG EE TT O (q34a a b c)=g34a (T:=Sm) a b c O:=by kernel_rfl
theorem h34ab0a(a b c d e f g h i):body PG EE TT O (q34ab0a a b c d e f g h i)=g34ab0a (T:=Sm) a b c d e f g h i O:=by kernel_rfl
theorem h34ab0b(a b c d e f g h i j):body PG EE TT O (q34ab0b a b c d e f g h i j)=g34ab0b (T:=Sm) a b c d e f g h (.rows i) j O:=by kernel_rfl
theorem h34ab2a(a b c d e f g h i):body PG EE TT O (q34ab2a a b c d e f g h i)=g34ab2a (T:=Sm) a b c d e f g h i O:=by kernel_rfl
theorem h34ab2b(a b c d e f g h i j):body PG EE TT O (q34ab2b a b c d e f g h i j)=g34ab2b (T:=Sm) a b c d e f g h (.rows i) j O:=by kernel_rfl
theorem h34ab2c(a b c d e f g h i j):body PG EE TT O (q34ab2c a b c d e f g h i j)=g34ab2c (T:=Sm) a b c d e f g h (.rows i) j O:=by kernel_rfl
theorem h34ab2d(a b c d e f g h i j k):body PG EE TT O (q34ab2d a b c d e f g h i j k)=g34ab2d (T:=Sm) a b c d e f g h (.rows i) (.rows j) k O:=by kernel_rfl
theorem h36a(a b c):body PG EE TT O (q36a a b c)=g36a (T:=Sm) a b c O:=by kernel_rfl
theorem h28a(a b c d e):body PG EE TT O (q28a a b c d e)=g28a (T:=Sm) a b c d e O:=by kernel_rfl
theorem h26a(a b c):body PG EE TT O (q26a a b c)=g26a (T:=Sm) a b c O:=by kernel_rfl
theorem h23a(a b c):body PG EE TT O (q23a a b c)=g23a (T:=Sm) a b c O:=by kernel_rfl
theorem h24a(a b c):body PG EE TT O (q24a a b c)=g24a (T:=Sm) a b c O:=by kernel_rfl
theorem h24ab1a(a b c d e f g h i j k l m n o p q r):body PG EE TT O (q24ab1a a b c d e f g h i j k l m n o p q r)=g24ab1a (T:=Sm) a b c d e f g h i j k l m n o p q r O:=by kernel_rfl
theorem h24ab1b(a b c d e f g h i):body PG EE TT O (q24ab1b a b c d e f g h i)=g24ab1b (T:=Sm) a b c (.rows d) e f g h i O:=by kernel_rfl
theorem h44a(a b c d):body PG EE TT O (q44a a b c d)=g44a (T:=Sm) a b c d O:=by kernel_rfl
theorem h52a(a b c):body PG EE TT O (q52a a b c)=g52a (T:=Sm) a b c O:=by kernel_rfl
theorem h52ab0a(a b c d):body PG EE TT O (q52ab0a a b c d)=g52ab0a (T:=Sm) (.rows a) b c d O:=by kernel_rfl
theorem h52ab0b(a b c d):body PG EE TT O (q52ab0b a b c d)=g52ab0b (T:=Sm) (.rows a) b c d O:=by kernel_rfl
theorem h50a(a b c):body PG EE TT O (q50a a b c)=g50a (T:=Sm) a b c O:=by kernel_rfl
theorem h51a(a b c):body PG EE TT O (q51a a b c)=g51a (T:=Sm) a b c O:=by kernel_rfl
theorem h53a(a b c):body PG EE TT O (q53a a b c)=g53a (T:=Sm) a b c O:=by kernel_rfl
theorem h54a(a b c):body PG EE TT O (q54a a b c)=g54a (T:=Sm) a b c O:=by kernel_rfl
theorem h45a(a b c d):body PG EE TT O (q45a a b c d)=g45a (T:=Sm) a b c d O:=by kernel_rfl
theorem h45ab0a(a b c d e):body PG EE TT O (q45ab0a a b c d e)=g45ab0a (T:=Sm) (.rows a) b c d e O:=by kernel_rfl
theorem h45ab0b(a b c d e):body PG EE TT O (q45ab0b a b c d e)=g45ab0b (T:=Sm) (.rows a) b c d e O:=by kernel_rfl
theorem h45ab2a(a b c d e f g h i j k l m n):body PG EE TT O (q45ab2a a b c d e f g h i j k l m n)=g45ab2a (T:=Sm) a (.rows b) c d e f g h i j k l m n O:=by kernel_rfl
theorem h45ab2b(a b c d e f):body PG EE TT O (q45ab2b a b c d e f)=g45ab2b (T:=Sm) a (.rows b) c d (.rows e) f O:=by kernel_rfl
theorem h46a(a b c):body PG EE TT O (q46a a b c)=g46a (T:=Sm) a b c O:=by kernel_rfl
theorem h46ab0a(a b c d e):body PG EE TT O (q46ab0a a b c d e)=g46ab0a (T:=Sm) a b c (.rows d) e O:=by kernel_rfl
theorem h46ab0b(a b c d e):body PG EE TT O (q46ab0b a b c d e)=g46ab0b (T:=Sm) a b c (.rows d) e O:=by kernel_rfl
theorem h46ab0c(a b c d e):body PG EE TT O (q46ab0c a b c d e)=g46ab0c (T:=Sm) a b c (.rows d) e O:=by kernel_rfl
theorem h46ab0d(a b c d e):body PG EE TT O (q46ab0d a b c d e)=g46ab0d (T:=Sm) a b c (.rows d) e O:=by kernel_rfl
theorem h47a(a b c):body PG EE TT O (q47a a b c)=g47a (T:=Sm) a b c O:=by kernel_rfl
theorem h48a(a b c):body PG EE TT O (q48a a b c)=g48a (T:=Sm) a b c O:=by kernel_rfl
theorem h69a(a b c):body PG EE TT O (q69a a b c)=g69a (T:=Sm) a b c O:=by kernel_rfl
theorem h69ab0a(a b c d):body PG EE TT O (q69ab0a a b c d)=g69ab0a (T:=Sm) a b c d O:=by kernel_rfl
theorem h69ab0b(a b c d e):body PG EE TT O (q69ab0b a b c d e)=g69ab0b (T:=Sm) a b c d (.rows e) O:=by kernel_rfl
theorem h67a(a b c d):body PG EE TT O (q67a a b c d)=g67a (T:=Sm) a b c d O:=by kernel_rfl
theorem h67ab0a(a b c d e):body PG EE TT O (q67ab0a a b c d e)=g67ab0a (T:=Sm) a b c (.rows d) e O:=by kernel_rfl
theorem h67ab0b(a b c d e f):body PG EE TT O (q67ab0b a b c d e f)=g67ab0b (T:=Sm) a b c (.rows d) (.rows e) f O:=by kernel_rfl
theorem h68a(a b c d):body PG EE TT O (q68a a b c d)=g68a (T:=Sm) a b c d O:=by kernel_rfl
theorem h76a(a b c):body PG EE TT O (q76a a b c)=g76a (T:=Sm) a b c O:=by kernel_rfl
theorem h76ab0a(a b c d e f g):body PG EE TT O (q76ab0a a b c d e f g)=g76ab0a (T:=Sm) a b c d e f g O:=by kernel_rfl
theorem h76ab0c(a b c d e f g):body PG EE TT O (q76ab0c a b c d e f g)=g76ab0c (T:=Sm) a b c d e f g O:=by kernel_rfl
theorem h76ab0d(a b c d e f g h):body PG EE TT O (q76ab0d a b c d e f g h)=g76ab0d (T:=Sm) a b c d e f g h O:=by kernel_rfl
theorem h76ab0e(a b c d e f g h):body PG EE TT O (q76ab0e a b c d e f g h)=g76ab0e (T:=Sm) a b c d e f (.rows g) h O:=by kernel_rfl
theorem h83a(a b c):body PG EE TT O (q83a a b c)=g83a (T:=Sm) a b c O:=by kernel_rfl
theorem h84a(a b c):body PG EE TT O (q84a a b c)=g84a (T:=Sm) a b c O:=by kernel_rfl
theorem h8(a b c d e f g h):body PG EE TT O (q8 a b c d e f g h)=g8 (T:=Sm) a b c d e f g h O:=by kernel_rfl
theorem h8b0a(a b c d e f g h i):body PG EE TT O (q8b0a a b c d e f g h i)=g8b0a (T:=Sm) a b c d e f g h i O:=by kernel_rfl
theorem h8b2a(a b c d e f g h i):body PG EE TT O (q8b2a a b c d e f g h i)=g8b2a (T:=Sm) a b c d e f g h i O:=by kernel_rfl
theorem h8b4a(a b c d e f g h i):body PG EE TT O (q8b4a a b c d e f g h i)=g8b4a (T:=Sm) a b c d e f g h i O:=by kernel_rfl
theorem h9(a b c d e f g h i j k l m n o p q r s t u v):body PG EE TT O (q9 a b c d e f g h i j k l m n o p q r s t u v)=g9 (T:=Sm) a b c d e f g h i j k l m n o p q r s t u v O:=by kernel_rfl
theorem h9b0a(a b c d e f g h i j k l m n o p q r s t u v w):body PG EE TT O (q9b0a a b c d e f g h i j k l m n o p q r s t u v w)=g9b0a (T:=Sm) a b c d e f g h i j k l m n o p q r s t u v w O:=by kernel_rfl
theorem h9b2a(a b c d e f g h i j k l m n o p q r s t u v w):body PG EE TT O (q9b2a a b c d e f g h i j k l m n o p q r s t u v w)=g9b2a (T:=Sm) a b c d e f g h i j k l m n o p q r s t u v w O:=by kernel_rfl
theorem h14(a b c d e f g h i j):body PG EE TT O (q14 a b c d e f g h i j)=g14 (T:=Sm) a b c d e f g h i j O:=by kernel_rfl
theorem h14b0a(a b c d e f g h i j k):body PG EE TT O (q14b0a a b c d e f g h i j k)=g14b0a (T:=Sm) a b c d e f g h i j k O:=by kernel_rfl
theorem h15(a b c d e f g h i j k l):body PG EE TT O (q15 a b c d e f g h i j k l)=g15 (T:=Sm) a b c d e f g h i j k l O:=by kernel_rfl
theorem h15b0a(a b c d e f g h i j k l m):body PG EE TT O (q15b0a a b c d e f g h i j k l m)=g15b0a (T:=Sm) a b c d e f g h i j k l m O:=by kernel_rfl
theorem h16(a b c d e f g h i j k l m n o p):body PG EE TT O (q16 a b c d e f g h i j k l m n o p)=g16 (T:=Sm) a b c d e f g h i j k l m n o p O:=by kernel_rfl
theorem h16b0a(a b c d e f g h i j k l m n o p q):body PG EE TT O (q16b0a a b c d e f g h i j k l m n o p q)=g16b0a (T:=Sm) a b c d e f g h i j k l m n o p q O:=by kernel_rfl
theorem h17(a b):body PG EE TT O (q17 a b)=g17 (T:=Sm) a b O:=by kernel_rfl
theorem h17b0a(a b c):body PG EE TT O (q17b0a a b c)=g17b0a (T:=Sm) a b c O:=by kernel_rfl
theorem h18(a b c d e f g h):body PG EE TT O (q18 a b c d e f g h)=g18 (T:=Sm) a b c d e f g h O:=by kernel_rfl
theorem h19(a b c d e f g h i j):body PG EE TT O (q19 a b c d e f g h i j)=g19 (T:=Sm) a b c d e f g h i j O:=by kernel_rfl
theorem h19b0a(a b c d e f g h i j k):body PG EE TT O (q19b0a a b c d e f g h i j k)=g19b0a (T:=Sm) a b c d e f g h i j k O:=by kernel_rfl
theorem h37(a b):body PG EE TT O (q37 a b)=g37 (T:=Sm) a b O:=by kernel_rfl
theorem h37b0a(a b c):body PG EE TT O (q37b0a a b c)=g37b0a (T:=Sm) a b c O:=by kernel_rfl
theorem h38(a b):body PG EE TT O (q38 a b)=g38 (T:=Sm) a b O:=by kernel_rfl
theorem h38b0a(a b c):body PG EE TT O (q38b0a a b c)=g38b0a (T:=Sm) a b c O:=by kernel_rfl
theorem h20(a):body PG EE TT O (q20 a)=extK (scnP [a]):=by kernel_rfl
theorem h13aw(a b c):body PG EE TT O (q13aw a b c)=weakM [0,0,0,0,0,0,0,0,0,0,0,0,0,0,0,0,1] (O ⟨23,[a,b,c]⟩):=by kernel_rfl
theorem h11aw(a b c):body PG EE TT O (q11aw a b c)=weakM [1,0] (O ⟨41,[a,b,c]⟩):=by kernel_rfl
theorem h32aw(a b c):body PG EE TT O (q32aw a b c)=weakM [0,1,0,0,0,0,0,0,0] (O ⟨52,[a,b,c]⟩):=by kernel_rfl
theorem h33aw(a b c):body PG EE TT O (q33aw a b c)=weakM [0,0,0,0,1,0,0,0,0] (O ⟨68,[a,b,c]⟩):=by kernel_rfl
theorem h34aw(a b c):body PG EE TT O (q34aw a b c)=weakM [0,0,1,0,0] (O ⟨77,[a,b,c]⟩):=by kernel_rfl
theorem h36aw(a b c):body PG EE TT O (q36aw a b c)=weakM [0,1] (O ⟨84,[a,b,c]⟩):=by kernel_rfl
theorem h24aw(a b c):body PG EE TT O (q24aw a b c)=weakM [0,1,0,0,0,0,0,0,0,0,0,0,0,0,0,0,0] (O ⟨88,[a,b,c]⟩):=by kernel_rfl
theorem h29w(a b c d e f g h i j k l m n o p q r s t u v w x y z):body PG EE TT O (q29w a b c d e f g h i j k l m n o p q r s t u v w x y z)=weakK (O ⟨18,[a,b,c,d,e,f,g,h,i,j,k,l,m,n,o,p,q,r,s,t,u,v,w,x,y,z]⟩):=by kernel_rfl
theorem h52aw(a b c):body PG EE TT O (q52aw a b c)=weakM [0,1] (O ⟨92,[a,b,c]⟩):=by kernel_rfl
theorem h51aw(a b c):body PG EE TT O (q51aw a b c)=weakM [0,1] (O ⟨96,[a,b,c]⟩):=by kernel_rfl
theorem h54aw(a b c):body PG EE TT O (q54aw a b c)=weakM [0,1,0] (O ⟨98,[a,b,c]⟩):=by kernel_rfl
theorem h45aw(a b c d):body PG EE TT O (q45aw a b c d)=weakM [0,0,0,0,0,0,0,0,0,0,0,0,0,0,0,0,1] (O ⟨99,[a,b,c,d]⟩):=by kernel_rfl
theorem h46aw(a b c):body PG EE TT O (q46aw a b c)=weakM [0,1] (O ⟨104,[a,b,c]⟩):=by kernel_rfl
theorem h47aw(a b c):body PG EE TT O (q47aw a b c)=weakM [0,1] (O ⟨109,[a,b,c]⟩):=by kernel_rfl
theorem h69aw(a b c):body PG EE TT O (q69aw a b c)=weakM [0,1,0] (O ⟨111,[a,b,c]⟩):=by kernel_rfl
theorem h67aw(a b c d):body PG EE TT O (q67aw a b c d)=weakM [0,1,0] (O ⟨114,[a,b,c,d]⟩):=by kernel_rfl
theorem h68aw(a b c d):body PG EE TT O (q68aw a b c d)=weakM [0,1,0] (O ⟨117,[a,b,c,d]⟩):=by kernel_rfl
theorem h76aw(a b c):body PG EE TT O (q76aw a b c)=weakM [0,0,1] (O ⟨118,[a,b,c]⟩):=by kernel_rfl
theorem h83aw(a b c):body PG EE TT O (q83aw a b c)=weakM [0,1] (O ⟨124,[a,b,c]⟩):=by kernel_rfl
end Go.Proofs.YtfphhabaeggenaaDoor
