/- Joined texts. -/
import Derived.Test.YtfphhabaeggenaaGreatDoorBae
import Derived.Test.YtfphhabaeggenaaGreatDoorProg
import Derived.KernelRfl
import Derived.Test.YtfphhabaeggenaaGreatDoorBai
import Derived.WalkKit
import Derived.WalkSpells
import Derived.WalkLawsBesides
import Derived.Deep.LoopGhost
import Derived.Deep.QuietTactic
import Derived.Deep.OwnRows
import Derived.Deep.AppendLies
import Derived.BigQuiet
import Derived.Laws.AppendOwn
import Derived.Laws.OwnMore
import Derived.Below
import Derived.Handy
import Derived.OwnWalk
import Derived.Lib.Hide
import Derived.Deep.Heap
import Derived.Deep.Upon
import Derived.Deep.RegionLaw
import Derived.Deep.RegionHeldLaw
import Derived.Laws.EntriesVeiled
import Derived.Maps.AppendAt
import Derived.Great.BuildSlice
import Derived.Test.YtfphhabaeggenaaGreatDoorBaf
import Derived.Test.YtfphhabaeggenaaGreatDoorBag
import Derived.Test.YtfphhabaeggenaaGreatDoorMz0
set_option linter.all false
namespace Go.Proofs.YtfphhabaeggenaaGreatDoor
def aqM:Nat→List Nat
 |14=>[0,5,20,22,6,31,40,63,2,3,4]
 |20=>[4,0,26,25,27,5,39,38,40,37,7,1,49,48,50,47,9,8,12,14]
 |42=>[0,3,18,4,5,36,6,45,7,62,2]
 |43=>[0,3,17,4,32,34,5,2]
 |44=>[0,3,18,5,26,4,6,7,55,2]
 |58=>[0,24,23,25,22,3,2,5,7,64,63,65,62,10,71,70,72,69,11,12,90,89,91,88,8,14,115,114,116,113,16,17]
 |59=>[0,2,28,27,29,26,3,4,6,49,48,50,47,8,56,55,57,54,10,12,9,88,87,89,86,14,110,109,111,108,17,117,116,118,115,15,19,20]
 |60=>[0,1,4,6,7,9,74,73,75,72,11,13,10,15,5,16,136,135,137,134,18,19]
 |61=>[1,0,3,4,35,34,36,33,7,9,8,10,67,66,68,65,12,13]
 |62=>[0,1,2,14,13,15,12,8,3,10,26,7,9,4,5,6]
 |66=>[0,12,2,22,4,6,5,3,43,7,48]
 |84=>[0,13,5,17,7,24,10,33,6,8,9,2,3,4]
 |89=>[0,9,3,2]
 |91=>[0,9,2,3,18,4,30,41]
 |106=>[0,2,5,13,14,1,20,21,3,8,31,7,36,40,39,41,38,10,11,49,6]
 |112=>[2,1,14,13,15,12,5,7,9,6,11]
 |113=>[1,0,3,5,4,50,49,51,48,6,7,9]
 |124=>[0,8,7,9,1,5,16,4]
 |127=>[0,12,3,2,18,23,4,33,52,5,6,7,73,8]
 |128=>[3,0,8,16,4,28,40,2]
 |129=>[2,3,19,0,8,10,29,1,9,12,11,56,15,75,13,14,84,16]
 |148=>[3,0,8,4,13,2]
 |149=>[1,0,20,24,34,4]
 |150=>[0,1,7,23,11,32,8,4,9,10,40,13,12,54,15,66,14,85,90,16,99,109,113,116,120,124,5,6]
 |162=>[0,8,7,9,1,5,16,4]
 |163=>[0,8,7,9,1,5,16,4]
 |165=>[0,8,7,9,1,5,16,4]
 |167=>[1,0,6,16,5,24,23,25,22,2,8,31,3]
 |172=>[0,8,7,9,1,5,16,4]
 |173=>[0,8,7,9,1,5,16,4]
 |176=>[0,8,7,9,1,5,16,4]
 |178=>[0,3,14,4,22,30,38,48,2,58,5,76,6,99,106,7,119,8]
 |179=>[4,3,17,5,26,0,37,2]
 |191=>[0,1,5,16,22,30,38,6,50,9,53,10,67,7,8,87,4]
 |193=>[1,8,0,15,9,22,7,28,30,36,42,44,46,4,5,6]
 |195=>[1,0,2,40,6]
 |196=>[0,4,17,5,37,6,42,54,8,59,7,71,77,2,3]
 |207=>[0,9,2,3,23,4]
 |218=>[5,0,9,1,16,4]
 |221=>[5,1,9,0,17,4]
 |_=>[]
def sd7:Nat→List (Nat×Bool)
 |1=>[]
 |4=>[(0,true),(1,true),(2,false),(3,false)]
 |_=>[]
def avH:Nat→List (Nat×Bool)
 |5=>[(0,true),(1,true),(2,true),(3,false),(4,false),(5,false),(6,true),(7,false)]
 |7=>[(0,true),(1,true),(2,true),(3,false),(4,false),(5,false),(6,true),(7,false)]
 |9=>[(0,true),(1,true),(2,true),(3,false),(4,false),(5,false),(6,true),(7,false)]
 |11=>[(0,true),(1,true),(2,true),(3,false),(4,false),(5,false),(6,true),(7,false)]
 |14=>[(0,true),(1,true),(2,true),(3,true),(4,true),(5,true),(6,true),(7,true),(8,true),(9,false),(10,true),(11,true)]
 |_=>[]
def avG:Nat→List (Nat×Bool)
 |17=>[(0,true),(1,true),(2,true),(3,true),(4,true),(5,true),(6,false),(7,true),(8,true),(9,true),(10,true),(11,true),(12,true),(13,true)]
 |_=>[]
def avF:Nat→List (Nat×Bool)
 |1=>[(0,true),(1,true),(2,true),(3,true),(4,true),(5,true),(6,true),(7,true),(8,true),(9,true),(10,true),(11,true),(12,true),(13,true),(14,true),(15,true),(16,true)]
 |3=>[(0,true),(1,true),(2,true),(3,true),(4,true),(5,true),(6,true),(7,true),(8,true),(9,true),(10,false)]
 |_=>[]
def avE:Nat→List (Nat×Bool)
 |4=>[(0,true),(1,true),(2,true),(3,false),(4,true),(5,false),(6,false),(7,true),(8,false)]
 |11=>[(0,true),(1,true),(2,true),(3,false),(4,false),(5,false),(6,true),(7,false)]
 |_=>[]
def avD:Nat→List (Nat×Bool)
 |2=>[]
 |8=>[(0,true),(1,true),(2,true),(3,false),(4,false),(5,false),(6,true),(7,false)]
 |11=>[(0,true),(1,true),(2,true),(3,true),(4,true),(6,true),(7,true),(5,false),(8,true),(9,false),(10,false),(11,true),(12,false)]
 |_=>[]
def avC:Nat→List (Nat×Bool)
 |2=>[]
 |13=>[(0,true),(1,true),(2,true),(3,false),(4,false),(5,false),(6,true),(7,false)]
 |_=>[]
def avB:Nat→List (Nat×Bool)
 |3=>[(0,true),(1,true),(2,true),(4,true),(5,true),(3,false),(6,true),(7,false)]
 |_=>[]
def avA:Nat→List (Nat×Bool)
 |14=>[(0,true),(1,true),(2,true),(3,true),(4,true),(7,true),(8,true),(5,false),(6,true),(9,false)]
 |25=>[(0,true),(1,true),(2,true),(3,true),(4,true),(5,true),(6,true),(7,false),(8,true)]
 |_=>[]
def avz:Nat→List (Nat×Bool)
 |15=>[(0,true),(1,true),(2,true),(3,true),(4,true),(7,true),(8,true),(5,false),(6,true),(9,false)]
 |21=>[(0,true),(1,true),(2,true),(3,true),(4,true),(5,true),(7,true),(8,true),(11,true),(12,true),(6,false),(9,false),(10,true),(13,false)]
 |32=>[(0,true),(1,true),(2,true),(3,true),(4,true),(5,true),(7,true),(8,true),(6,false),(9,false),(10,true)]
 |34=>[(0,true),(1,true),(3,true),(4,true),(2,false),(5,false)]
 |_=>[]
def avy:Nat→List (Nat×Bool)
 |1=>[(0,true),(1,true),(2,true),(3,true),(4,true),(5,true),(6,false),(7,true),(8,true),(9,true),(10,true),(11,true)]
 |5=>[(0,true),(1,true),(2,true),(3,true),(4,true),(5,true),(6,true),(7,true),(8,true),(9,true),(10,true)]
 |7=>[(0,true),(1,true),(2,true),(3,true),(4,true),(5,true),(6,false)]
 |11=>[(0,true),(1,true),(2,true),(3,true),(4,true),(5,true),(6,false),(7,true),(8,true),(9,true),(10,true),(11,true)]
 |24=>[(0,true),(1,true),(2,true),(10,true),(11,true),(3,false),(4,true),(5,true),(6,true),(7,true),(8,false),(9,true),(12,false)]
 |_=>[]
def avx:Nat→List (Nat×Bool)
 |1=>[(0,true),(1,true),(2,true),(3,true),(4,true),(5,true),(6,false),(7,true),(8,true),(9,true),(10,true),(11,true)]
 |5=>[(0,true),(1,true),(2,true),(3,true),(4,true),(5,true),(6,true),(7,true),(8,true),(9,true),(10,true),(11,true),(12,true),(13,true),(14,true)]
 |12=>[(0,true),(1,true),(2,true),(3,true),(4,true),(5,true),(6,true),(7,true),(8,true),(9,true),(10,true),(12,true),(13,true),(11,false),(14,false)]
 |_=>[]
def avw:Nat→List (Nat×Bool)
 |10=>[(0,true),(1,true),(2,true),(3,false),(4,false),(5,false),(6,true),(7,false)]
 |13=>[(0,true),(1,true),(2,false),(3,false),(4,true),(5,false)]
 |_=>[]
def amI:Nat→List (Nat×Bool)
 |1=>[(0,true),(1,true),(2,true),(3,true),(4,true),(5,true),(6,true),(7,false),(8,true),(9,true),(10,true),(11,true),(12,true)]
 |_=>[]
def amH:Nat→List (Nat×Bool)
 |8=>[(0,true),(1,true),(2,true),(3,false),(4,false),(5,false),(6,true),(7,false)]
 |10=>[(0,true),(1,true),(2,true),(3,false),(4,false),(5,false),(6,true),(7,false)]
 |12=>[(0,true),(1,true),(2,true),(3,false),(4,false),(5,false),(6,true),(7,false)]
 |23=>[(0,true),(1,true),(4,true),(5,true),(2,false),(3,false),(6,true),(7,false)]
 |_=>[]
def amG:Nat→List (Nat×Bool)
 |1=>[(0,true),(1,true),(2,true),(3,true),(4,true),(5,true),(6,true),(7,true),(8,true),(9,true),(10,true),(11,true),(12,true),(13,true),(14,true),(15,true),(16,true),(18,true),(17,false),(19,false),(20,true),(21,true),(22,true)]
 |_=>[]
def amF:Nat→List (Nat×Bool)
 |4=>[(0,true),(1,true),(2,true),(3,true),(4,false),(5,true),(6,false),(7,false),(8,false),(9,true),(10,false)]
 |7=>[(0,true),(1,true),(2,true),(3,false),(4,false),(5,false),(6,true),(7,false)]
 |_=>[]
def amE:Nat→List (Nat×Bool)
 |20=>[(0,true),(1,true),(2,true),(3,false),(4,false),(5,false),(6,true),(7,false)]
 |40=>[]
 |_=>[]
def amD:Nat→List (Nat×Bool)
 |7=>[(0,true),(1,true),(2,true),(3,false),(4,false),(5,false),(6,true),(7,false)]
 |_=>[]
def sdT:Nat→Nat→List (Nat×Bool)
 |7=>sd7
 |14=>avH
 |20=>avG
 |40=>avF
 |42=>avE
 |43=>avD
 |44=>avC
 |46=>avB
 |58=>avA
 |59=>avz
 |60=>avy
 |61=>avx
 |91=>avw
 |113=>amI
 |127=>amH
 |175=>amG
 |177=>amF
 |178=>amE
 |207=>amD
 |_=>fun _=>[]
def sx7:Nat→Option (I9×List Nat)
 |1=>some (.look 0 (.look 1 (.look 3 (.look 4 (.look 6 (.look 7 (.eff (.cons 2 (.eff (.cons 5 (.eff (.cons 8 (.look 9 (.eff (.cons 10 (.look 11 (.eff (.cons 12 (.look 13 (.done)) (.nil)))) (.nil)))) (.cons 10 (.eff (.cons 8 (.look 9 (.look 11 (.eff (.cons 12 (.look 13 (.done)) (.nil))))) (.nil))) (.nil)))) (.cons 10 (.eff (.cons 5 (.eff (.cons 8 (.look 9 (.look 11 (.eff (.cons 12 (.look 13 (.done)) (.nil))))) (.nil))) (.nil))) (.nil)))) (.cons 10 (.eff (.cons 2 (.eff (.cons 5 (.eff (.cons 8 (.look 9 (.look 11 (.eff (.cons 12 (.look 13 (.done)) (.nil))))) (.nil))) (.nil))) (.nil))) (.nil))))))))),[4,1,2,3])
 |_=>none
def avl:Nat→Option (I9×List Nat)
 |2=>some (.look 0 (.look 1 (.look 2 (.look 5 (.look 6 (.eff (.cons 3 (.look 4 (.look 7 (.eff (.cons 8 (.eff (.cons 9 (.done) (.nil))) (.nil))))) (.cons 8 (.eff (.cons 3 (.look 4 (.look 7 (.eff (.cons 9 (.done) (.nil))))) (.nil))) (.nil)))))))),[0,4,2])
 |_=>none
def avk:Nat→Option (I9×List Nat)
 |2=>some (.look 0 (.look 1 (.look 2 (.look 4 (.look 5 (.eff (.cons 3 (.look 6 (.eff (.cons 7 (.eff (.cons 8 (.done) (.nil))) (.nil)))) (.cons 7 (.eff (.cons 3 (.look 6 (.eff (.cons 8 (.done) (.nil)))) (.nil))) (.nil)))))))),[0,4,2])
 |_=>none
def ams:Nat→Option (I9×List Nat)
 |40=>some (.look 0 (.look 2 (.look 4 (.look 5 (.eff (.cons 1 (.eff (.cons 3 (.look 6 (.eff (.cons 7 (.done) (.nil)))) (.nil))) (.cons 3 (.eff (.cons 1 (.look 6 (.eff (.cons 7 (.done) (.nil)))) (.nil))) (.nil))))))),[0,8,2])
 |_=>none
def sxT:Nat→Nat→Option (I9×List Nat)
 |7=>sx7
 |43=>avl
 |44=>avk
 |178=>ams
 |_=>fun _=>none
def rsT:Nat→List Nat
 |20=>[4]
 |_=>[]
def dfT(f:Nat):Bool:=([20]:List Nat).elem f
def PZ(f:Nat):FT:={keep:=aqM f,sd:=sdT f,sx:=sxT f,rs:=rsT f,df:=dfT f }
def ER(f:Nat):Bool:=([5,7,14,17,18,19,20,39,40,41,42,43,44,45,46,57,58,59,60,61,62,63,64,65,66,84,85,86,87,88,89,90,91,102,103,104,105,106,107,108,109,110,111,112,113,114,115,116,117,118,119,120,121,122,123,124,125,126,127,128,129,148,149,150,162,163,164,165,166,167,168,169,170,171,172,173,174,175,176,177,178,179,180,191,192,193,194,195,196,197,198,199,200,201,206,207,218,219,220,221,228,237,238,246,247]:List Nat).elem f
set_option maxRecDepth 100000
abbrev oQ(a b:Nat):Prop:=(List.range b).all (fun i=>!ER (a+i)||QM Tryz.prog PZ (a+i))=true
theorem mX{a b:Nat}(h:oQ 0 a)(h2:oQ a b):oQ 0 (a+b):=by
 unfold oQ at *;simp only[Nat.zero_add] at *;rw[List.range_add,List.all_append,h,List.all_map];exact h2
theorem amk:oQ 0 32:=by unfold oQ;kernel_rfl
theorem aiE:oQ 32 32:=by unfold oQ;kernel_rfl
theorem aiD:oQ 64 32:=by unfold oQ;kernel_rfl
theorem aiC:oQ 96 32:=by unfold oQ;kernel_rfl
theorem ab8:oQ 128 32:=by unfold oQ;kernel_rfl
theorem ab7:oQ 160 32:=by unfold oQ;kernel_rfl
theorem ab6:oQ 192 32:=by unfold oQ;kernel_rfl
theorem ab5:oQ 224 32:=by unfold oQ;kernel_rfl
theorem ab4:oQ 256 21:=by unfold oQ;kernel_rfl
theorem RQ:PY Tryz.prog ER PZ:=Vz (n:=277) (by kernel_rfl) (by simpa[oQ] using(mX (mX (mX (mX (mX (mX (mX (mX amk aiE) aiD) aiC) ab8) ab7) ab6) ab5) ab4))
theorem ajS:(List.range 277).all (fun f=>!ER f||callable Tryz.prog f)=true:=by kernel_rfl
theorem V5:∀f,277≤f→ER f=false:=by
 intro f hf;unfold ER;simp;omega
theorem Uc:∀f,ER f=true→callable Tryz.prog f=true:=ajR V5 ajS
def sp0:Nat→List AV→List ah→Option (AV×List ah):=fun _ _ _=>none
theorem aiR(R:Nat→PV):bZ R Tryz.prog sp0:=fun _ _ _ _ _ h=>by cases h
end Go.Proofs.YtfphhabaeggenaaGreatDoor
namespace Go.Proofs.YtfphhabaeggenaaGreatDoor
open Go.RowKit
set_option linter.all false
set_option maxRecDepth 100000
def ast:ByteArray:=⟨#[99,108,97,115,115,32,69,113,32,97,32,119,104,101,114,101,32,101,110,100,59,32,105,110,115,116,97,110,99,101,32,69,113,32,73,110,116,32,119,104,101,114,101,32,101,110,100,59,32,105,110,115,116,97,110,99,101,32,69,113,32,73,110,116,32,119,104,101,114,101,32,101,110,100,59]⟩
def afE:AV:=.agg [.pv (.lit (.slice none 0 0)),.sl 0 0 1 6,.sl 1 0 2 8,.pv (.lit (.slice none 0 0))]
def afC:List ah:=[.box 70 [.pv (.lit (.string ⟨#[69,113]⟩)),.pv (.lit (.string ⟨#[97]⟩)),.pv (.lit (.slice none 0 0)),.pv (.lit (.slice none 0 0)),.pv (.lit (.slice none 0 0)),.pv (.lit (.int .i64 6))],.box 47 [.pv (.lit (.string ⟨#[69,113]⟩)),.pv (.lit (.int .i64 3)),.pv (.lit (.string ⟨#[73,110,116]⟩)),.pv (.lit (.int .i64 0)),.pv (.lit (.slice none 0 0)),.pv (.lit (.slice none 0 0)),.pv (.lit (.slice none 0 0)),.pv (.lit (.int .i64 31)),.pv (.lit (.string ⟨#[69,113]⟩)),.pv (.lit (.int .i64 3)),.pv (.lit (.string ⟨#[73,110,116]⟩)),.pv (.lit (.int .i64 0)),.pv (.lit (.slice none 0 0)),.pv (.lit (.slice none 0 0)),.pv (.lit (.slice none 0 0)),.pv (.lit (.int .i64 58))]]
theorem ajh:BR Tryz.prog ER PZ sp0 100000 60 14 [.pv (.lit (.string ast))] []=some (.tup [afE,.pv (.lit (.int .i64 0)),.pv (.lit (.int .i64 0))],afC):=by kernel_rfl
def asq:AV:=.tup [.agg [.pv (.lit (.slice none 0 0)),.pv (.lit (.slice none 0 0)),.pv (.lit (.slice none 0 0))],.agg [.pv (.lit (.int .i64 125)),.pv (.lit (.int .i64 58))]]
def asv:List ah:=[.box 70 [.pv (.lit (.string ⟨#[69,113]⟩)),.pv (.lit (.string ⟨#[97]⟩)),.pv (.lit (.slice none 0 0)),.pv (.lit (.slice none 0 0)),.pv (.lit (.slice none 0 0)),.pv (.lit (.int .i64 6))],.box 47 [.pv (.lit (.string ⟨#[69,113]⟩)),.pv (.lit (.int .i64 3)),.pv (.lit (.string ⟨#[73,110,116]⟩)),.pv (.lit (.int .i64 0)),.pv (.lit (.slice none 0 0)),.pv (.lit (.slice none 0 0)),.pv (.lit (.slice none 0 0)),.pv (.lit (.int .i64 31)),.pv (.lit (.string ⟨#[69,113]⟩)),.pv (.lit (.int .i64 3)),.pv (.lit (.string ⟨#[73,110,116]⟩)),.pv (.lit (.int .i64 0)),.pv (.lit (.slice none 0 0)),.pv (.lit (.slice none 0 0)),.pv (.lit (.slice none 0 0)),.pv (.lit (.int .i64 58))]]
theorem ajj:BR Tryz.prog ER PZ sp0 100000 60 7 [afE] afC=some (asq,asv):=by kernel_rfl
set_option linter.all false
set_option maxRecDepth 100000
def asr:ByteArray:=⟨#[100,97,116,97,32,84,32,61,32,65,59,32,99,108,97,115,115,32,69,113,32,97,32,119,104,101,114,101,32,101,110,100,59,32,99,108,97,115,115,32,79,114,100,32,97,32,102,114,111,109,32,69,113,32,119,104,101,114,101,32,101,110,100,59,32,105,110,115,116,97,110,99,101,32,79,114,100,32,84,32,119,104,101,114,101,32,101,110,100,59]⟩
def afD:AV:=.agg [.sl 0 0 1 5,.sl 2 0 2 6,.sl 4 0 1 8,.pv (.lit (.slice none 0 0))]
def afB:List ah:=[.box 41 [.pv (.lit (.string ⟨#[84]⟩)),.pv (.lit (.slice none 0 0)),.sl 1 0 1 3,.pv (.lit (.slice none 0 0)),.pv (.lit (.int .i64 5))],.box 148 [.pv (.lit (.string ⟨#[65]⟩)),.pv (.lit (.slice none 0 0)),.pv (.lit (.int .i64 9))],.box 70 [.pv (.lit (.string ⟨#[69,113]⟩)),.pv (.lit (.string ⟨#[97]⟩)),.pv (.lit (.slice none 0 0)),.pv (.lit (.slice none 0 0)),.pv (.lit (.slice none 0 0)),.pv (.lit (.int .i64 18)),.pv (.lit (.string ⟨#[79,114,100]⟩)),.pv (.lit (.string ⟨#[97]⟩)),.sl 3 0 1 1,.pv (.lit (.slice none 0 0)),.pv (.lit (.slice none 0 0)),.pv (.lit (.int .i64 40))],.box 9 [.pv (.lit (.string ⟨#[69,113]⟩))],.box 47 [.pv (.lit (.string ⟨#[79,114,100]⟩)),.pv (.lit (.int .i64 3)),.pv (.lit (.string ⟨#[84]⟩)),.pv (.lit (.int .i64 0)),.pv (.lit (.slice none 0 0)),.pv (.lit (.slice none 0 0)),.pv (.lit (.slice none 0 0)),.pv (.lit (.int .i64 74))]]
theorem ajg:BR Tryz.prog ER PZ sp0 100000 60 14 [.pv (.lit (.string asr))] []=some (.tup [afD,.pv (.lit (.int .i64 0)),.pv (.lit (.int .i64 0))],afB):=by kernel_rfl
def aso:AV:=.tup [.agg [.pv (.lit (.slice none 0 0)),.pv (.lit (.slice none 0 0)),.pv (.lit (.slice none 0 0))],.agg [.pv (.lit (.int .i64 126)),.pv (.lit (.int .i64 74))]]
def asu:List ah:=[.box 41 [.pv (.lit (.string ⟨#[84]⟩)),.pv (.lit (.slice none 0 0)),.sl 1 0 1 3,.pv (.lit (.slice none 0 0)),.pv (.lit (.int .i64 5))],.box 148 [.pv (.lit (.string ⟨#[65]⟩)),.pv (.lit (.slice none 0 0)),.pv (.lit (.int .i64 9))],.box 70 [.pv (.lit (.string ⟨#[69,113]⟩)),.pv (.lit (.string ⟨#[97]⟩)),.pv (.lit (.slice none 0 0)),.pv (.lit (.slice none 0 0)),.pv (.lit (.slice none 0 0)),.pv (.lit (.int .i64 18)),.pv (.lit (.string ⟨#[79,114,100]⟩)),.pv (.lit (.string ⟨#[97]⟩)),.sl 3 0 1 1,.pv (.lit (.slice none 0 0)),.pv (.lit (.slice none 0 0)),.pv (.lit (.int .i64 40))],.box 9 [.pv (.lit (.string ⟨#[69,113]⟩))],.box 47 [.pv (.lit (.string ⟨#[79,114,100]⟩)),.pv (.lit (.int .i64 3)),.pv (.lit (.string ⟨#[84]⟩)),.pv (.lit (.int .i64 0)),.pv (.lit (.slice none 0 0)),.pv (.lit (.slice none 0 0)),.pv (.lit (.slice none 0 0)),.pv (.lit (.int .i64 74))]]
theorem aji:BR Tryz.prog ER PZ sp0 100000 60 7 [afD] afB=some (aso,asu):=by kernel_rfl
set_option linter.all false
set_option maxRecDepth 100000
def spA(f:Nat)(args:List AV)(h:List ah):Option (AV×List ah):=match Nat.beq f 14,Nat.beq f 7 with
 |true,_=>match FX h [] with
  |true=>match OO args [.pv (.lit (.string ast))] with
   |true=>some (.tup [afE,.pv (.lit (.int .i64 0)),.pv (.lit (.int .i64 0))],afC)
   |false=>match OO args [.pv (.lit (.string asr))] with
    |true=>some (.tup [afD,.pv (.lit (.int .i64 0)),.pv (.lit (.int .i64 0))],afB)
    |false=>none
  |false=>none
 |false,true=>match OO args [afE]&&FX h afC with
  |true=>some (asq,asv)
  |false=>match OO args [afD]&&FX h afB with
   |true=>some (aso,asu)
   |false=>none
 |_,_=>none
theorem aiQ(R:Nat→PV):bZ R Tryz.prog spA:=by
 have E:=fun f args h v h' e=>vo (lf:=100000) (aiR R) Uc RQ (fun _=>rfl) mixed 60 f args h v h' e
 intro f args h v h' he;unfold spA at he;split at he
 ·rename_i hf
  have hf:=Nat.eq_of_beq_eq_true hf;subst hf;split at he
  ·rename_i hh
   have hh:=oq hh;subst hh;split at he
   ·rename_i ha
    have ha:=wo ha;subst ha;cases he;exact E _ _ _ _ _ ajh
   ·split at he
    ·rename_i ha
     have ha:=wo ha;subst ha;cases he;exact E _ _ _ _ _ ajg
    ·cases he
  ·cases he
 ·rename_i hf
  have hf:=Nat.eq_of_beq_eq_true hf;subst hf;split at he
  ·rename_i ha
   rw[Bool.and_eq_true] at ha;rw[wo ha.1,oq ha.2];cases he;exact E _ _ _ _ _ ajj
  ·split at he
   ·rename_i ha
    rw[Bool.and_eq_true] at ha;rw[wo ha.1,oq ha.2];cases he;exact E _ _ _ _ _ aji
   ·cases he
 ·cases he
theorem WN:BR Tryz.prog ER PZ spA 100000 60 5 [] []=some (.pv (.lit (.bool true)),[]):=by kernel_rfl
theorem WM:Sem Tryz.prog 5 [] [] (.pv (bv true)) []:=fun R=>vo (aiQ R) Uc RQ (fun _=>rfl) mixed 60 _ _ _ _ _ WN
end Go.Proofs.YtfphhabaeggenaaGreatDoor
namespace Go.Proofs.YtfphhabaeggenaaGreatDoor
open Go.RowKit Go.Deep
set_option linter.all false
theorem aks:(Tryz.prog.info? 41).map (fun i=>(i.zero,i.size,i.bytes))=some (some (.agg #[.string ByteArray.empty,.slice none 0 0,.slice none 0 0,.slice none 0 0,.int .i64 0]),5,96):=by kernel_rfl
theorem agy:Tryz.prog.underlying 23=some (.slice 41):=by kernel_rfl
set_option maxRecDepth 100000 in
theorem afF(g n cap:Nat)(w:World):(binOp .eql 23 (.slice (some ⟨g,0,none⟩) n cap) (.slice none 0 0)).run Tryz.prog w=.ok (.bool false) w:=by
 have h:(binOp .eql 23 (.slice (some ⟨g,0,none⟩) n cap) (.slice none 0 0):Go.Sem Value)=(do pure (.bool (←Op.equal 23 (.slice (some ⟨g,0,none⟩) n cap) (.slice none 0 0)))):=by rfl
 rw[h];simp only[Op.equal,Op.equalIn,Sem.run_bind,Sem.run_pure,run_underlying agy,Result.andThen_ok];rfl
theorem Cr(w:World)(o:Obj):(w.alloc o).heap[w.heap.size]? = some o:=by show (w.heap.push o)[w.heap.size]? = some o;exact Array.getElem?_push_size
set_option maxHeartbeats 4000000 in
set_option maxRecDepth 100000 in
theorem WA(g n cap:Nat)(news:List Value)(w:World)(hn:0<n)(hl:news.length=n*5)(hnw:∀j u,news[j]? = some u→w.cell? ((⟨g,0,none⟩:Addr).add j)=some u)(h1:∀u∈news,u.oneCell'=true)(hb:n≤1000001) :
  Calls Tryz.prog 17 #[.slice (some ⟨g,0,none⟩) n cap] w fun e w'=>∃gg cc,e=.returned (.slice (some ⟨gg,0,none⟩) n cc)∧w'.ownsRow w.heap.size 41 5 (.slice (some ⟨gg,0,none⟩) n cc) n news∧Below w.heap.size w w':=by
 obtain⟨i41,hi41,hz0,hz1,hz2⟩:=info_parts aks
 go_enter Tryz.func17,Tryz.ntmps17
 have hnw2:∀j u,news[j]? = some u→(w.alloc (.cells #[] 41)).cell? ((⟨g,0,none⟩:Addr).add j)=some u:=fun j u hj=>by
  have h:=hnw j u hj;rw[World.cell?_alloc_some w _ _ (by rw[h];rfl)];exact h
 have hown:(w.alloc (.cells #[] 41)).ownsRow w.heap.size 41 5 (.slice (some ⟨w.heap.size,0,none⟩) 0 0) 0 []:=
  ⟨rfl,.inr ⟨w.heap.size,0,#[],rfl,Nat.le_refl _,Cr w _,Nat.le_refl _,Nat.zero_le _,rfl,rfl⟩⟩
 go_wp2_with fail
 rw[afF,Result.andThen_ok]
 go_wp2_with (at_builtin;refine wpList_append_lies (w.alloc (.cells #[] 41)) rfl _ _ 23 rfl w.heap.size 41 i41 _ 5 96 agy hi41 hz0 hz1 hz2 rfl (by decide) (.slice (some ⟨w.heap.size,0,none⟩) 0 0) 0 [] rfl hown ⟨g,0,none⟩ n cap news rfl hl hnw2 h1 hn (by unfold maxLen;omega) (by omega) (by show w.heap.size≤(w.heap.push _).size;rw[Array.size_push];omega) (w.heap.size+1) (by show (w.heap.push _).size=_;rw[Array.size_push]) ?_;intro gg cc w1 hown1 hgrow hat hlt)
 all_goals
  go_returns
  refine⟨gg,cc,rfl,by simpa using hown1,⟨hgrow.os,hgrow.tape,hgrow.output,?_,fun k hk=>?_⟩⟩
  ·have h:=hgrow.size
   have:w.heap.size≤(w.alloc (.cells #[] 41)).heap.size:=by show w.heap.size≤(w.heap.push _).size;rw[Array.size_push];omega
   omega
  ·have h:=hgrow.block k (by show k<(w.heap.push _).size;rw[Array.size_push];omega) (by simp[Value.ownBlock];omega)
   rw[h];show (w.heap.push _)[k]? = _;rw[Array.getElem?_push,if_neg (by omega)]
end Go.Proofs.YtfphhabaeggenaaGreatDoor
namespace Go.Proofs.YtfphhabaeggenaaGreatDoor
open Go.RowKit
set_option linter.all false
def T17:Tr:=.alt (.say (.bin .eql 23 (.pv (.sym 0)) (.pv (.lit (.slice none 0 0))) (.pv (.lit (.bool true)))) 0 (.ret (.pv (.lit (.slice none 0 0))) [])) (.say (.bin .eql 23 (.pv (.sym 0)) (.pv (.lit (.slice none 0 0))) (.pv (.lit (.bool false)))) 0 (.say (.app 23 (.pv (.rows [])) (.pv (.sym 0)) 1) 1 (.ret (.tsym 0 1) [.tok 41 5 (aH+1)])))
def A17:List AV:=[.pv (.sym 0)]
def H17:List ah:=[]
set_option maxRecDepth 100000 in
theorem c17:K7 Tryz.prog (Iw Tryz.prog t17 17 A17 H17) T17 1 [] [] []=true:=by kernel_rfl
theorem F17(x0:PV)(hn:jh [x0]){v:AV}{h':List ah}(hd:nZ Tryz.prog Tryz.f17 T17 [x0] (.ret v h')) :
  Sem Tryz.prog 17 [.pv x0] [] v h':=
 zy ak0 aaE mixed ae4 (args:=A17) (h:=H17) (by kernel_rfl) c17 rfl hn (by simp only[A17,lT,iq,nm,isRow,List.getD_cons_zero,List.getD_cons_succ,and_self,and_true]) (by trivial) hd
def t18:FT where
 keep:=[]
 kb:=fun
  |_=>[]
 sd:=fun
  |_=>[]
theorem akZ:Tryz.prog.funcs[18]? = some Tryz.f18:=by kernel_rfl
theorem aaD:Tryz.f18.body.isSome=true:=by kernel_rfl
theorem ae2:tabOk t18.sd t18.sx (cO Tryz.f18)=true:=by kernel_rfl
def T18:Tr:=.alt (.say (.bin .eql 24 (.pv (.sym 0)) (.pv (.lit (.slice none 0 0))) (.pv (.lit (.bool true)))) 0 (.ret (.pv (.lit (.slice none 0 0))) [])) (.say (.bin .eql 24 (.pv (.sym 0)) (.pv (.lit (.slice none 0 0))) (.pv (.lit (.bool false)))) 0 (.say (.app 24 (.pv (.rows [])) (.pv (.sym 0)) 1) 1 (.ret (.tsym 0 1) [.tok 70 6 (aH+1)])))
def A18:List AV:=[.pv (.sym 0)]
def H18:List ah:=[]
set_option maxRecDepth 100000 in
theorem c18:K7 Tryz.prog (Iw Tryz.prog t18 18 A18 H18) T18 1 [] [] []=true:=by kernel_rfl
theorem F18(x0:PV)(hn:jh [x0]){v:AV}{h':List ah}(hd:nZ Tryz.prog Tryz.f18 T18 [x0] (.ret v h')) :
  Sem Tryz.prog 18 [.pv x0] [] v h':=
 zy akZ aaD mixed ae2 (args:=A18) (h:=H18) (by kernel_rfl) c18 rfl hn (by simp only[A18,lT,iq,nm,isRow,List.getD_cons_zero,List.getD_cons_succ,and_self,and_true]) (by trivial) hd
def t19:FT where
 keep:=[]
 kb:=fun
  |_=>[]
 sd:=fun
  |_=>[]
theorem akY:Tryz.prog.funcs[19]? = some Tryz.f19:=by kernel_rfl
theorem aaC:Tryz.f19.body.isSome=true:=by kernel_rfl
theorem ae1:tabOk t19.sd t19.sx (cO Tryz.f19)=true:=by kernel_rfl
def T19:Tr:=.alt (.say (.bin .eql 25 (.pv (.sym 0)) (.pv (.lit (.slice none 0 0))) (.pv (.lit (.bool true)))) 0 (.ret (.pv (.lit (.slice none 0 0))) [])) (.say (.bin .eql 25 (.pv (.sym 0)) (.pv (.lit (.slice none 0 0))) (.pv (.lit (.bool false)))) 0 (.say (.app 25 (.pv (.rows [])) (.pv (.sym 0)) 1) 1 (.ret (.tsym 0 1) [.tok 47 8 (aH+1)])))
def A19:List AV:=[.pv (.sym 0)]
def H19:List ah:=[]
set_option maxRecDepth 100000 in
theorem c19:K7 Tryz.prog (Iw Tryz.prog t19 19 A19 H19) T19 1 [] [] []=true:=by kernel_rfl
theorem F19(x0:PV)(hn:jh [x0]){v:AV}{h':List ah}(hd:nZ Tryz.prog Tryz.f19 T19 [x0] (.ret v h')) :
  Sem Tryz.prog 19 [.pv x0] [] v h':=
 zy akY aaC mixed ae1 (args:=A19) (h:=H19) (by kernel_rfl) c19 rfl hn (by simp only[A19,lT,iq,nm,isRow,List.getD_cons_zero,List.getD_cons_succ,and_self,and_true]) (by trivial) hd
end Go.Proofs.YtfphhabaeggenaaGreatDoor
namespace Go.Proofs.YtfphhabaeggenaaGreatDoor
open Go.RowKit Go.Maps
set_option maxRecDepth 20000
theorem WR.grow{K:Kn}{h:List ah}{w w':World}(H:WR K h w)(hf:jv (fun _=>False) w w'):WR K h w' where
 fresh:=H.fresh
 has:=H.has
 lt:=fun i g hi=>Nat.lt_of_lt_of_le (H.lt i g hi) hf.size
 box:=fun i ty cells hi=>let ⟨g,cs,a,b,c,d⟩:=H.box i ty cells hi;⟨g,cs,a,by rw[hf.block g (H.lt i g a) id];exact b,c,d⟩
 map:=fun i ks vs hi=>let ⟨g,e,c,a,b,d⟩:=H.map i ks vs hi;⟨g,e,c,a,by rw[hf.block g (H.lt i g a) id];exact b,d⟩
 tok:=fun t ty sz len hi=>let ⟨g,cs,a,b,c⟩:=H.tok t ty sz len hi;⟨g,cs,a,by rw[hf.block g (H.lt t g a) id];exact b,c⟩
 inj:=H.inj
 apart:=H.apart
 agr:=fun g o v hm=>by
  have h1:=H.agr g o v hm;have hg:g<w.heap.size:=by
   apply Decidable.byContradiction;intro hn;have:w.heap[g]? = Option.none:=Array.getElem?_eq_none (by omega);unfold World.cell? at h1;rw[this] at h1;cases h1
  rw[←h1];exact World.cell?_of_block (hf.block g hg id)
 arr:=fun i ty sz p hi=>let ⟨g,cs,a,b,c⟩:=H.arr i ty sz p hi;⟨g,cs,a,by rw[hf.block g (H.lt i g a) id];exact b,c⟩
theorem Step.known{K:Kn}{h:List ah}{w w':World}(H:WR K h w)(hf:jv (fun _=>False) w w')(M2:Nat→Nat→Option Value)(h2:∀g o v,M2 g o=some v→w.heap.size≤g∧w'.cell? ⟨g,o,none⟩=some v) :
  ∃K',Step K h w K' h w'∧K'.R=K.R∧(∀g o v,M2 g o=some v→K'.M g o=some v)∧∀g o v,K.M g o=some v→K'.M g o=some v:=by
 have hG:=H.grow hf;have hlow:∀g o,g<w.heap.size→M2 g o=none:=fun g o hg=>by
  cases hm:M2 g o with
  |none=>rfl
  |some v=>have:=(h2 g o v hm).1;omega
 have hno:∀g o v,K.M g o=some v→g<w.heap.size:=fun g o v hm=>by
  apply Decidable.byContradiction;intro hn;have h1:=H.agr g o v hm;have:w.heap[g]? = none:=Array.getElem?_eq_none (by omega);unfold World.cell? at h1;rw[this] at h1;cases h1
 obtain⟨K',hK'⟩:∃K':Kn,K' = {M:=fun g o=>match K.M g o with|some v=>some v|none=>M2 g o,Z:=K.Z,E:=K.E,mu:=K.mu,R:=K.R,N:=K.N,gl:=fun b cs hb i v hv=>by show (match K.M b i with|some v=>some v|none=>M2 b i)=some v;rw[K.gl b cs hb i v hv] }:=⟨_,rfl⟩;have hmu:K'.mu=K.mu:=by rw[hK']
 have hZ:K'.Z=K.Z:=by rw[hK']
 have hE:K'.E=K.E:=by rw[hK']
 have hR:K'.R=K.R:=by rw[hK']
 have hN:K'.N=K.N:=by rw[hK']
 have hM:∀g o,K'.M g o=match K.M g o with|some v=>some v|none=>M2 g o:=fun g o=>by rw[hK']
 have hold:∀g o v,K.M g o=some v→K'.M g o=some v:=fun g o v hm=>by rw[hM,hm]
 have hlt:∀g o,g<w.heap.size→K'.M g o=K.M g o:=fun g o hg=>by
  rw[hM];cases hm:K.M g o with
  |some v=>rfl
  |none=>exact hlow g o hg
 have hnew:∀g o v,M2 g o=some v→K'.M g o=some v:=fun g o v hm=>by
  rw[hM];cases hk:K.M g o with
  |none=>exact hm
  |some u=>have:=hno g o u hk;have:=(h2 g o v hm).1;omega
 have hext:Ext K K':=⟨hold,fun i g h=>by rw[hmu];exact h,fun i g _=>by rw[hZ],fun i g _=>by rw[hE],hR,fun i g _=>by rw[hN]⟩;have hlv:∀b,K'.liveB h b→K.liveB h b:=fun b ⟨i,x,h1,h3,h4⟩=>⟨i,x,h1,h3,by rw[←hmu];exact h4⟩
 refine⟨K',⟨⟨fun i hi=>by rw[hmu];exact H.fresh i hi,fun i hi=>by rw[hmu];exact H.has i hi,fun i g hi=>by rw[hmu] at hi;exact hG.lt i g hi,fun i ty cells hi=>?_,fun i ks vs hi=>?_,fun t ty sz len hi=>?_,fun i j x y g hi hj hx hy hm1 hm2=>?_,fun i ty cells g hi hm o=>?_,fun g o v hm=>?_,fun i ty sz p hi=>?_⟩,hext,hf.mono (fun _ _ e=>e.elim),fun g _=>⟨by rw[hZ],by rw[hE]⟩,fun g o hg _=>hlt g o hg,fun k b hb=>.inl (by rw[hmu] at hb;exact hb),fun b hb _=>hlv b hb,Nat.le_refl _⟩,hR,hnew,hold⟩
 ·obtain⟨g,cs,a,b,c,d⟩:=hG.box i ty cells hi
  exact⟨g,cs,by rw[hmu];exact a,b,by rw[hZ,hE];exact c,d.mono hext⟩
 ·obtain⟨g,e,c,a,b,d⟩:=hG.map i ks vs hi
  exact⟨g,e,c,by rw[hmu];exact a,b,d.mono hext⟩
 ·obtain⟨g,cs,a,b,c,d,e,f⟩:=hG.tok t ty sz len hi
  refine⟨g,cs,by rw[hmu];exact a,b,by rw[hZ];exact c,by rw[hE];exact d,by rw[hZ];exact e,fun o ho=>?_⟩;rw[hR] at ho;rw[hlt g o (H.lt t g a)];exact f o ho
 ·rw[hmu] at hm1 hm2
  exact H.inj i j x y g hi hj hx hy hm1 hm2
 ·rw[hmu] at hm
  rw[hlt g o (H.lt i g hm)];exact H.apart i ty cells g hi hm o
 ·rw[hM] at hm
  cases hk:K.M g o with
  |some u=>rw[hk] at hm;cases hm;exact hG.agr g o _ hk
  |none=>rw[hk] at hm;exact(h2 g o v hm).2
 ·obtain⟨g,cs,a,b,c,d⟩:=hG.arr i ty sz p hi
  refine⟨g,cs,by rw[hmu];exact a,b,by rw[hZ,hE];exact c,d.go (fun o=>?_) (by rw[hR]) (by rw[hN]) (by rw[hZ]) (by rw[hE]) (fun q v _ h=>h.ext hext)⟩;rw[hlt g o (H.lt i g a)];exact d.none o
theorem AB{w w':World}(h:Below w.heap.size w w'):jv (fun _=>False) w w':=⟨h.os,h.tape,h.output,h.size,fun k hk _=>h.block k hk⟩
theorem Jh(ts:List Lx.Tok):∀(i j:Nat) (h:i<ts.length),j<4→(Lx.tokCells ts)[i*4+j]? = (ts[i].cells)[j]?:=by
 induction ts with
 |nil=>intro i j h;simp at h
 |cons t l ih=>
  intro i j h hj;have hc:t.cells.length=4:=rfl;rw[show Lx.tokCells (t::l)=t.cells++Lx.tokCells l by simp[Lx.tokCells]];cases i with
  |zero=>rw[List.getElem?_append_left (by omega)];simp
  |succ i=>
   rw[List.getElem?_append_right (by omega),show (i+1)*4+j-t.cells.length=i*4+j by omega,ih i j (by simpa using h) hj];simp
theorem XQ(b:ByteArray)(hb:b.size≤maxLen)(hn:∀ts,Lx.scanP b=.ok ts→ts≠[]):Sem Tryz.prog 47 [.pv (sv b)] [] (.tup [.pv (qb (Lx.scanP b)).1,.agg [.pv (iv (qb (Lx.scanP b)).2.1),.pv (iv (qb (Lx.scanP b)).2.2)]]) []:=by
 intro R K w us hR W hv;have hus:us=[.string b]:=by
  obtain⟨hl,hh⟩:=hv
  match us,hl with
  |[u],_=>
   have h0:=hh 0 (by simp) (by simp);simp only[List.getElem_cons_zero] at h0;cases h0 with
   |pv h1=>cases h1;rfl
 subst hus;refine(Lx.scan_any b w hb).mono fun e w' hs=>?_
 unfold Lx.Scanned at hs;have hnone:∀p x,dN (.tup [.pv p,.agg x])=none:=fun p x=>rfl
 cases hr:Lx.scanP b with
 |ok ts=>
  rw[hr] at hs;obtain⟨v,rfl,ho,hbl⟩:=hs;have hne:=hn ts hr;obtain⟨hlen,ho|ho⟩:=ho
  ·exact absurd (List.length_eq_zero_iff.1 ho.2) hne
  ·obtain⟨g,cap,cur,rfl,hg,hc,hcap,hcm,hsz,htk⟩:=ho
   obtain⟨K',hst,hKR,hnew,_⟩:=Step.known W (AB hbl) (fun gg o=>if gg=g then cur[o]? else none) (fun gg o v hm=>by
    split at hm
    ·rename_i e;subst e;exact⟨hg,by simp[World.cell?,hc,hm]⟩
    ·cases hm)
   refine⟨K',?_,hst⟩;unfold gW;rw[hnone];refine⟨_,rfl,.tup _ _ rfl fun i h h'=>?_⟩;have hi:i=0∨i=1:=by simp at h;omega
   rcases hi with rfl|rfl
   ·show VR _ (.pv (qb (.ok ts)).1) _
    refine .pv ?_;unfold qb dA;simp only;have hl:(ts.map ofTok |>.map Tk.cells).length=ts.length:=by simp
    have key:∀i (h:i<ts.length) j,j<4→cur[i*4+j]? = (ts[i].cells)[j]?:=by
     intro i h j hj;rw[←Jh ts i j h hj,←htk,List.getElem?_take_of_lt (by omega)];simp
    have hpr:=PR.rows (R:=K'.R) (M:=K'.M) (ts.map ofTok |>.map Tk.cells) (some ⟨g,0,none⟩) cap g 0 4 (fun i j=>(cur[i*4+j]?).getD .nilFunc) (fun _=>rfl) (by simpa using hcap)
     (fun i h=>by simp[Tk.cells]) (fun i h j hj=>by
      have hi:i<ts.length:=by simpa using h
      have k1:=key i hi j hj;have k2:j<(ts[i].cells).length:=hj;rw[List.getElem?_eq_getElem k2] at k1;refine hnew g _ _ ?_;rw[if_pos rfl,Nat.zero_add,k1];rfl)
     (fun i h j hj=>by
      have hi:i<ts.length:=by simpa using h
      have hj':j<4:=by simpa[Tk.cells] using hj
      have k1:=key i hi j hj';rw[k1];have e:(List.map Tk.cells (List.map ofTok ts))[i]=(ofTok ts[i]).cells:=by simp
      have hcase:j=0∨j=1∨j=2∨j=3:=by omega
      rcases hcase with rfl|rfl|rfl|rfl
      all_goals
       simp only[e,Tk.cells,ofTok,Lx.Tok.cells];exact .lit _ rfl)
    rw[hl] at hpr;exact hpr
   ·show VR _ (.agg [.pv (iv 0),.pv (iv 0)]) _
    exact .agg _ [_,_] rfl fun i h h'=>by
     have hi:i=0∨i=1:=by simp at h;omega
     rcases hi with rfl|rfl<;>exact .pv (.lit _ rfl)
 |error p=>
  obtain⟨c,at_⟩:=p;rw[hr] at hs;obtain⟨rfl,hbl⟩:=hs;have hag:∀g o v,K.M g o=some v→g<w.heap.size:=by
   intro g o v h;apply Decidable.byContradiction;intro hn;rw[W.noM (by omega)] at h;cases h
  refine⟨K,?_,?_⟩
  ·unfold gW
   rw[hnone];refine⟨_,rfl,.tup _ [_,_] rfl fun i h h'=>?_⟩;have hi:i=0∨i=1:=by simp at h;omega
   rcases hi with rfl|rfl
   ·exact .pv (.lit _ rfl)
   ·exact .agg _ [_,_] rfl fun i h h'=>by
     have hi:i=0∨i=1:=by simp at h;omega
     rcases hi with rfl|rfl<;>exact .pv (.lit _ rfl)
  ·exact⟨W.grow (AB hbl),Ext.refl K,⟨hbl.os,hbl.tape,hbl.output,hbl.size,fun k hk _=>hbl.block k hk⟩,fun b _=>⟨rfl,rfl⟩,fun b o _ _=>rfl,fun k b h=>.inl h,fun b h _=>h,Nat.le_refl _⟩
end Go.Proofs.YtfphhabaeggenaaGreatDoor
namespace Go.Proofs.YtfphhabaeggenaaGreatDoor
open Go.RowKit Go.Deep
set_option linter.all false
theorem GR{P:Program}{t e:TypeId}(h:P.underlying t=some (.slice e))(d:Nat)(a:Option Addr)(c:Nat):aP P (Op.equalIn (d+1) t (.slice a 0 c) (.slice none 0 0))=some a.isNone:=by
 cases a<;>(simp only[Op.equalIn,bB,iZ h,Option.bind_some];rfl)
theorem iF{P:Program}{t e:TypeId}(h:P.underlying t=some (.slice e))(a:Option Addr)(c:Nat):fq P .eql t (.pv (.lit (.slice a 0 c))) (.pv (.lit (.slice none 0 0))) (.pv (.lit (.bool a.isNone))):=by
 intro x y;have h1:aP P (Op.equal t (.slice a 0 c) (.slice none 0 0))=some a.isNone:=GR h _ a c;have h2:aP P (do eqGuard .eql t x y (.slice a 0 c) (.slice none 0 0);binOp .eql t (.slice a 0 c) (.slice none 0 0))=some (.bool a.isNone):=by
  rw[bB];have g:aP P (eqGuard .eql t x y (.slice a 0 c) (.slice none 0 0))=some ():=rfl;rw[g,Option.bind_some];have g2:(binOp .eql t (.slice a 0 c) (.slice none 0 0):Go.Sem Value)=(do pure (.bool (←Op.equal t (.slice a 0 c) (.slice none 0 0)))):=by cases a<;>rfl
  rw[g2,bB,h1];rfl
 unfold Cu;simp only[AV.val?,OI,h2];rfl
theorem Gh{P:Program}{t e:TypeId}(h:P.underlying t=some (.slice e))(c:List PV)(es:List (List PV)):fq P .eql t (.pv (.rows (c::es))) (.pv (.lit (.slice none 0 0))) (.pv (.lit (.bool false))):=by
 intro x y;unfold Cu;simp[AV.val?,J3,h]
theorem Sem.forget{P:Program}{f:Nat}{args:List AV}{v:AV}{h':List ah}(hc:Sem P f args [] v h')(hv:refs (wk v)=[]):Sem P f args [] (wk v) []:=fun R=>(hc R).forget hv
theorem Ab{P:Program}{t:TypeId}{sz b:Nat}(h:jQ P t sz b):∃e,P.underlying t=some (.slice e):=by
 obtain⟨⟨e,zc,g1,_⟩,_⟩:=h;exact⟨e,g1⟩
theorem Rw{P:Program}{t:TypeId}{sz by_:Nat}(ht:jQ P t sz by_){R:Nat→PV}{x:PV}{j:Nat}(es':List (List PV))(h2:rowsOf (.pv (aj R x))=some es')(h3:R j=.rows es')(hsz:∀c∈es',c.length=sz)(hb:es'.length≤1000000)(hy:by_≤1000):(SF.app t (.pv (.rows [])) (.pv x) j).ok R P:=by
 obtain⟨⟨e,zc,g1,g2,g3,g4,g5⟩,g6⟩:=ht;refine⟨e,sz,by_,zc,[],es',g1,g2,g3,g4,g6,g5,?_,h2,?_,hsz,by simp;omega,?_,by rw[h3];rfl⟩
 ·rw[af,aj,aX];rfl
 ·intro hn
  rw[af,aj] at hn;cases hn
 ·have:es'.length*by_≤1000000*1000:=Nat.mul_le_mul hb hy
  simp only[List.length_nil,Nat.zero_add];omega
theorem IQ(x:PV)(b:Bool)(hx:fq Tryz.prog .eql 23 (.pv x) (.pv (.lit (.slice none 0 0))) (.pv (.lit (.bool b))))(hb:b=true)(hn:jh [x]):Sem Tryz.prog 17 [.pv x] [] (.pv (.rows [])) []:=by
 subst hb;have h:=F17 x hn (v:=.pv (.lit (.slice none 0 0))) (h':=[]) (by
  unfold T17;rw[nZ];refine .inl ?_;rw[nZ,Ct];exact⟨hx,by simp[nm]⟩)
 exact Sem.forget h rfl
theorem WE:Sem Tryz.prog 17 [.pv (.lit (.slice none 0 0))] [] (.pv (.lit (.slice none 0 0))) []:=by
 obtain⟨e,he⟩:=Ab gD;exact F17 (.lit (.slice none 0 0)) (by simp[bE,bT]) (v:=.pv (.lit (.slice none 0 0))) (h':=[]) (by
  unfold T17;rw[nZ];refine .inl ?_;rw[nZ,Ct];exact⟨iF he none 0,by simp[nm]⟩)
theorem IW(x:PV)(hx:fq Tryz.prog .eql 23 (.pv x) (.pv (.lit (.slice none 0 0))) (.pv (.lit (.bool false))))(es:List (List PV))(hn:jh [x])(hr:NS (.rows es))(h2:rowsOf (.pv x)=some es)(hs:∀c∈es,c.length=5)(hl:es.length≤1000000):Sem Tryz.prog 17 [.pv x] [] (.pv (.rows es)) []:=by
 have hop:∀R,aj R x=x:=fun R=>by
  have:=mE (hn x (by simp));exact jl _ _ this
 have h:=F17 x hn (v:=.trows 0 es) (h':=[.tok 41 5 (dl (nm [x,.rows es]) (aH+1))]) (by
  unfold T17;rw[nZ];refine .inr ?_;rw[nZ,Ct];refine⟨hx,?_⟩;rw[nZ,Ct];refine⟨.rows es,?_⟩;rw[Ct];refine⟨⟨Rw gD es (by rw[aj];simpa[nm] using h2) rfl hs hl (by decide),?_⟩,hr⟩;have h0:dl (nm [x,.rows es]) (aH+1)=es.length:=sU rfl;simp[nm];rw[h0];unfold aH;omega)
 exact Sem.forget h rfl
theorem asP(es:List (List PV))(hn:NS (.rows es))(hs:∀c∈es,c.length=5)(hl:es.length≤1000000):Sem Tryz.prog 17 [.pv (.rows es)] [] (.pv (.rows es)) []:=by
 obtain⟨e,he⟩:=Ab gD;cases es with
 |cons x l=>exact IW _ (Gh he x l) _ (by simpa[bE,bT] using hn) hn rfl hs hl
 |nil=>
  intro R K w us hK hW hus;have hu:=hus;obtain⟨h1,h2⟩:=hus;obtain⟨u,rfl⟩:∃u,us=[u]:=by
   cases us with
   |nil=>cases h1
   |cons u us=>cases us with
    |nil=>exact⟨u,rfl⟩
    |cons _ _=>simp at h1
  have hv:=h2 0 (by simp) (by simp);simp only[List.getElem_cons_zero] at hv;cases hv with
  |pv hp=>
   cases hp with
   |rows _ a cap g off sz us' ha hn hsz hc hr=>
    cases a with
    |some a=>exact IW (.lit (.slice (some a) 0 cap)) (iF he (some a) cap) [] (by simp[bE,bT]) (show NS (.rows []) from sI []) rfl (by simp) (by simp) R K w _ hK hW (VL.single (.pv (.lit _ rfl)))
    |none=>
     cases cap with
     |zero=>exact IQ (.lit (.slice none 0 0)) _ (iF he none 0) rfl (by simp[bE,bT]) R K w _ hK hW (VL.single (.pv (.lit _ rfl)))
     |succ c=>exact IQ (.lit (.slice none 0 (c+1))) _ (iF he none (c+1)) rfl (by simp[bE,bT]) R K w _ hK hW (VL.single (.pv (.lit _ rfl)))
theorem IL(x:PV)(b:Bool)(hx:fq Tryz.prog .eql 24 (.pv x) (.pv (.lit (.slice none 0 0))) (.pv (.lit (.bool b))))(hb:b=true)(hn:jh [x]):Sem Tryz.prog 18 [.pv x] [] (.pv (.rows [])) []:=by
 subst hb;have h:=F18 x hn (v:=.pv (.lit (.slice none 0 0))) (h':=[]) (by
  unfold T18;rw[nZ];refine .inl ?_;rw[nZ,Ct];exact⟨hx,by simp[nm]⟩)
 exact Sem.forget h rfl
theorem WC:Sem Tryz.prog 18 [.pv (.lit (.slice none 0 0))] [] (.pv (.lit (.slice none 0 0))) []:=by
 obtain⟨e,he⟩:=Ab gZ;exact F18 (.lit (.slice none 0 0)) (by simp[bE,bT]) (v:=.pv (.lit (.slice none 0 0))) (h':=[]) (by
  unfold T18;rw[nZ];refine .inl ?_;rw[nZ,Ct];exact⟨iF he none 0,by simp[nm]⟩)
theorem IV(x:PV)(hx:fq Tryz.prog .eql 24 (.pv x) (.pv (.lit (.slice none 0 0))) (.pv (.lit (.bool false))))(es:List (List PV))(hn:jh [x])(hr:NS (.rows es))(h2:rowsOf (.pv x)=some es)(hs:∀c∈es,c.length=6)(hl:es.length≤1000000):Sem Tryz.prog 18 [.pv x] [] (.pv (.rows es)) []:=by
 have hop:∀R,aj R x=x:=fun R=>by
  have:=mE (hn x (by simp));exact jl _ _ this
 have h:=F18 x hn (v:=.trows 0 es) (h':=[.tok 70 6 (dl (nm [x,.rows es]) (aH+1))]) (by
  unfold T18;rw[nZ];refine .inr ?_;rw[nZ,Ct];refine⟨hx,?_⟩;rw[nZ,Ct];refine⟨.rows es,?_⟩;rw[Ct];refine⟨⟨Rw gZ es (by rw[aj];simpa[nm] using h2) rfl hs hl (by decide),?_⟩,hr⟩;have h0:dl (nm [x,.rows es]) (aH+1)=es.length:=sU rfl;simp[nm];rw[h0];unfold aH;omega)
 exact Sem.forget h rfl
theorem asO(es:List (List PV))(hn:NS (.rows es))(hs:∀c∈es,c.length=6)(hl:es.length≤1000000):Sem Tryz.prog 18 [.pv (.rows es)] [] (.pv (.rows es)) []:=by
 obtain⟨e,he⟩:=Ab gZ;cases es with
 |cons x l=>exact IV _ (Gh he x l) _ (by simpa[bE,bT] using hn) hn rfl hs hl
 |nil=>
  intro R K w us hK hW hus;have hu:=hus;obtain⟨h1,h2⟩:=hus;obtain⟨u,rfl⟩:∃u,us=[u]:=by
   cases us with
   |nil=>cases h1
   |cons u us=>cases us with
    |nil=>exact⟨u,rfl⟩
    |cons _ _=>simp at h1
  have hv:=h2 0 (by simp) (by simp);simp only[List.getElem_cons_zero] at hv;cases hv with
  |pv hp=>
   cases hp with
   |rows _ a cap g off sz us' ha hn hsz hc hr=>
    cases a with
    |some a=>exact IV (.lit (.slice (some a) 0 cap)) (iF he (some a) cap) [] (by simp[bE,bT]) (show NS (.rows []) from sI []) rfl (by simp) (by simp) R K w _ hK hW (VL.single (.pv (.lit _ rfl)))
    |none=>
     cases cap with
     |zero=>exact IL (.lit (.slice none 0 0)) _ (iF he none 0) rfl (by simp[bE,bT]) R K w _ hK hW (VL.single (.pv (.lit _ rfl)))
     |succ c=>exact IL (.lit (.slice none 0 (c+1))) _ (iF he none (c+1)) rfl (by simp[bE,bT]) R K w _ hK hW (VL.single (.pv (.lit _ rfl)))
theorem IK(x:PV)(b:Bool)(hx:fq Tryz.prog .eql 25 (.pv x) (.pv (.lit (.slice none 0 0))) (.pv (.lit (.bool b))))(hb:b=true)(hn:jh [x]):Sem Tryz.prog 19 [.pv x] [] (.pv (.rows [])) []:=by
 subst hb;have h:=F19 x hn (v:=.pv (.lit (.slice none 0 0))) (h':=[]) (by
  unfold T19;rw[nZ];refine .inl ?_;rw[nZ,Ct];exact⟨hx,by simp[nm]⟩)
 exact Sem.forget h rfl
theorem WB:Sem Tryz.prog 19 [.pv (.lit (.slice none 0 0))] [] (.pv (.lit (.slice none 0 0))) []:=by
 obtain⟨e,he⟩:=Ab gN;exact F19 (.lit (.slice none 0 0)) (by simp[bE,bT]) (v:=.pv (.lit (.slice none 0 0))) (h':=[]) (by
  unfold T19;rw[nZ];refine .inl ?_;rw[nZ,Ct];exact⟨iF he none 0,by simp[nm]⟩)
theorem IU(x:PV)(hx:fq Tryz.prog .eql 25 (.pv x) (.pv (.lit (.slice none 0 0))) (.pv (.lit (.bool false))))(es:List (List PV))(hn:jh [x])(hr:NS (.rows es))(h2:rowsOf (.pv x)=some es)(hs:∀c∈es,c.length=8)(hl:es.length≤1000000):Sem Tryz.prog 19 [.pv x] [] (.pv (.rows es)) []:=by
 have hop:∀R,aj R x=x:=fun R=>by
  have:=mE (hn x (by simp));exact jl _ _ this
 have h:=F19 x hn (v:=.trows 0 es) (h':=[.tok 47 8 (dl (nm [x,.rows es]) (aH+1))]) (by
  unfold T19;rw[nZ];refine .inr ?_;rw[nZ,Ct];refine⟨hx,?_⟩;rw[nZ,Ct];refine⟨.rows es,?_⟩;rw[Ct];refine⟨⟨Rw gN es (by rw[aj];simpa[nm] using h2) rfl hs hl (by decide),?_⟩,hr⟩;have h0:dl (nm [x,.rows es]) (aH+1)=es.length:=sU rfl;simp[nm];rw[h0];unfold aH;omega)
 exact Sem.forget h rfl
theorem asN(es:List (List PV))(hn:NS (.rows es))(hs:∀c∈es,c.length=8)(hl:es.length≤1000000):Sem Tryz.prog 19 [.pv (.rows es)] [] (.pv (.rows es)) []:=by
 obtain⟨e,he⟩:=Ab gN;cases es with
 |cons x l=>exact IU _ (Gh he x l) _ (by simpa[bE,bT] using hn) hn rfl hs hl
 |nil=>
  intro R K w us hK hW hus;have hu:=hus;obtain⟨h1,h2⟩:=hus;obtain⟨u,rfl⟩:∃u,us=[u]:=by
   cases us with
   |nil=>cases h1
   |cons u us=>cases us with
    |nil=>exact⟨u,rfl⟩
    |cons _ _=>simp at h1
  have hv:=h2 0 (by simp) (by simp);simp only[List.getElem_cons_zero] at hv;cases hv with
  |pv hp=>
   cases hp with
   |rows _ a cap g off sz us' ha hn hsz hc hr=>
    cases a with
    |some a=>exact IU (.lit (.slice (some a) 0 cap)) (iF he (some a) cap) [] (by simp[bE,bT]) (show NS (.rows []) from sI []) rfl (by simp) (by simp) R K w _ hK hW (VL.single (.pv (.lit _ rfl)))
    |none=>
     cases cap with
     |zero=>exact IK (.lit (.slice none 0 0)) _ (iF he none 0) rfl (by simp[bE,bT]) R K w _ hK hW (VL.single (.pv (.lit _ rfl)))
     |succ c=>exact IK (.lit (.slice none 0 (c+1))) _ (iF he none (c+1)) rfl (by simp[bE,bT]) R K w _ hK hW (VL.single (.pv (.lit _ rfl)))
section
variable{P:Program}{S:Nat→List Shape}{E:Nat→gJ}{T:Nat→Et}{k m f n:Nat}
theorem KN(h0:Sem P f [.pv (.lit (.slice none 0 0))] [] (.pv (.lit (.slice none 0 0))) [])(h:∀es:List (List PV),NS (.rows es)→(∀c∈es,c.length=n)→es.length≤1000000→Sem P f [.pv (.rows es)] [] (.pv (.rows es)) [])
  (hE:E k = {f:=f,args:=[.pv (.sym 0)],n:=1,fam:=m }) (hS:S m=[{v:=.pv (.sym 0),m:=1 }]) (hT:T k=.ext (F8 n)):aL P S E T k:=by
 refine aL.ext (by rw[hE]) hT fun l r hp hr=>?_
 unfold F8 at hr;split at hr
 ·cases hr
  refine⟨?_,?_,?_,?_,?_⟩
  ·unfold tH BB
   simp only[hE,hS];exact h0
  ·simp only[hE,hS];decide
  ·simp only[hE,hS];rfl
  ·intro p hp
   rw[List.mem_singleton.1 hp];exact .lit _
  ·simp only[hE,hS]
   exact fun i hi=>by cases hi
 ·rename_i es
  split at hr
  ·rename_i hc
   cases hr;unfold Cj at hc;rw[Bool.and_eq_true,List.all_eq_true,decide_eq_true_eq] at hc;have hns:NS (.rows es):=hp.ns _ List.mem_cons_self;refine⟨?_,?_,?_,?_,?_⟩
   ·unfold tH BB
    simp only[hE,hS];exact h es hns (fun c hc'=>by simpa using hc.1 c hc') hc.2
   ·simp only[hE,hS];decide
   ·simp only[hE,hS];rfl
   ·intro p hp
    rw[List.mem_singleton.1 hp];exact hns
   ·simp only[hE,hS]
    exact fun i hi=>by cases hi
  ·cases hr
 ·cases hr
end
end Go.Proofs.YtfphhabaeggenaaGreatDoor
namespace Go.Proofs.YtfphhabaeggenaaGreatDoor
open Go.RowKit Go.Deep
set_option linter.all false
theorem ab0{K:Kn}{a:AV}{us:List Value}(h:VL K [a] us):∃v,us=[v]∧VR K a v:=by
 obtain⟨h1,h2⟩:=h;cases us with
 |nil=>cases h1
 |cons v l=>
  cases l with
  |nil=>exact⟨v,rfl,h2 0 (by simp) (by simp)⟩
  |cons=>simp at h1
theorem aa5{w:World}{A j:Nat}{cs:Array Value}{t:TypeId}{v:Value}(h:w.heap[A]? = some (.cells cs t (0,0)))(hj:cs[j]? = some v):w.cell? ⟨A,j,none⟩=some v:=by
 unfold World.cell?;simp only[h];exact hj
theorem ais{R:Nat→PV}{M:Nat→Nat→Option Value}{p:PV}{v:Value}(h:PR R M p v):PR R M (wk1 p) v:=by
 unfold wk1;split
 ·cases h
  exact .rows [] none 0 0 0 0 (fun _ _=>.nilFunc) (fun h=>absurd rfl h) (Nat.le_refl _) (fun i h=>by simp at h) (fun i h=>by simp at h) (fun i h=>by simp at h)
 ·exact h
theorem ait{p:PV}(h:NS p):NS (wk1 p):=by
 unfold wk1;split
 ·exact sI []
 ·exact h
theorem abY{es:List (List PV)}(h:NS (.rows es)):NS (.rows (es.map Ch)):=by
 cases h with
 |rows _ h=>
  refine .rows _ fun c hc p hp=>?_
  obtain⟨d,hd,rfl⟩:=List.mem_map.1 hc;obtain⟨q,hq,rfl⟩:=List.mem_map.1 hp;exact ait (h d hd q hq)
theorem ack(es:List (List PV))(h0:es≠[])(h5:∀c∈es,c.length=5)(hb:es.length≤1000001)(hns:dQ es=true):Sem Tryz.prog 17 [.arr 0] [.arr 41 5 (.rows es)] (.pv (.rows (es.map Ch))) [.arr 41 5 (.rows es)]:=fun R K w us hR W hv=>by
 obtain⟨v,rfl,hv2⟩:=ab0 hv;obtain⟨g,cs1,hg,hw,⟨hs,hZ⟩,hr⟩:=W.arr 0 41 5 (.rows es) rfl;obtain⟨es',he,_,hlen,hle,hel,hcell⟩:=hr.row;have hop:aj K.R (.rows es)=.rows es:=jl _ _ (show dQ es=true from hns);rw[hop] at he;injection he with he
 subst he;have hE:=hr.el;cases hv2 with
 |arr _ g' cap hm' hn hz=>
 rw[hg] at hm';cases hm';have hpos:0<es.length:=List.length_pos_iff.2 h0;have hnl:(cs1.toList.take (es.length*5)).length=es.length*5:=by
  have hsz:cs1.toList.length=cs1.size:=Array.length_toList;rw[List.length_take,hsz,hs,hE];exact Nat.min_eq_left (Nat.mul_le_mul_right 5 hle)
 have hnget:∀j u,(cs1.toList.take (es.length*5))[j]? = some u→j<es.length*5∧cs1[j]? = some u:=fun j u hj=>by
  have hj1:j<es.length*5:=by
   have:=(List.getElem?_eq_some_iff.1 hj).1;omega
  rw[List.getElem?_take_of_lt hj1] at hj;exact⟨hj1,by rw[←Array.getElem?_toList];exact hj⟩
 have hpr:∀j,(hj:j<es.length*5)→∃u,cs1[j]? = some u∧u.oneCell'=true:=fun j hj=>by
  have hk:j/5<es.length:=by omega
  have h5k:=h5 _ (List.getElem_mem hk);obtain⟨u,h1,h2⟩:=hcell (j/5) hk (j%5) (by rw[h5k];omega);rw[hE] at h1;exact⟨u,by rw[←h1];congr 1;omega,h2.one⟩
 have hone:∀u∈cs1.toList.take (es.length*5),u.oneCell'=true:=fun u hu=>by
  obtain⟨j,hj⟩:=List.getElem?_of_mem hu;obtain⟨h1,h2⟩:=hnget j u hj;obtain⟨u',h3,h4⟩:=hpr j h1;rw[h2] at h3;cases h3;exact h4
 rw[←hlen];have hc:=WA g es.length cap (cs1.toList.take (es.length*5)) w hpos hnl (fun j u hj=>by
  have:=(hnget j u hj).2;have ea:(⟨g,0,none⟩:Addr).add j=⟨g,j,none⟩:=by
   unfold Addr.add;by_cases h:j=0
   ·rw[if_pos h,h]
   ·rw[if_neg h];simp
  rw[ea];exact aa5 hw this) hone hb
 refine hc.mono fun e w' hh=>?_
 obtain⟨gg,cc,rfl,hown,hbl⟩:=hh;rcases hown.2 with⟨hx,_⟩|⟨g2,cap2,cur,hx,hbase,hgb,r1,r2,r3,r4⟩
 ·cases hx
 cases hx;have hcur:∀j,j<es.length*5→cur[j]? = cs1[j]?:=fun j hj=>by
  have h1:=congrArg (fun l=>l[j]?) r4;simp only[List.getElem?_take_of_lt hj] at h1;rw[←Array.getElem?_toList,←Array.getElem?_toList];exact h1
 obtain⟨K',hst,hKR,hnew,hold⟩:=Step.known W (AB hbl) (fun b o=>if b=gg then cur[o]? else none) (fun b o v hm=>by
  split at hm
  ·rename_i e;subst e;exact⟨hbase,by simp[World.cell?,hgb,hm]⟩
  ·cases hm)
 refine⟨K',?_,hst⟩;have hex:∀q v,PR K.R K.M q v→PR K'.R K'.M q v:=fun q v hq=>by rw[hKR];exact hq.mono hold
 refine⟨_,rfl,.pv ?_⟩;have hml:(es.map Ch).length=es.length:=List.length_map ..;have hpr:=PR.rows (R:=K'.R) (M:=K'.M) (es.map Ch) (some ⟨gg,0,none⟩) cc gg 0 5 (fun i j=>(cur[i*5+j]?).getD .nilFunc) (fun _=>rfl) (by rw[hml];exact r1) (fun i hi=>by simp[Ch,h5 _ (List.getElem_mem (by simpa using hi:i<es.length))]) (fun i hi j hj=>?_) (fun i hi j hj=>?_)
 ·rw[hml] at hpr;exact hpr
 ·have hi:i<es.length:=by simpa using hi
  obtain⟨u,h1,_⟩:=hcell i hi j (by rw[h5 _ (List.getElem_mem hi)];exact hj);rw[hE] at h1;have hlt:i*5+j<es.length*5:=by omega
  rw[Nat.zero_add];refine hnew gg _ _ ?_;rw[if_pos rfl,hcur _ hlt,h1];rfl
 ·have hi:i<es.length:=by simpa using hi
  have hj:j<es[i].length:=by simpa[Ch] using hj
  have hj5:j<5:=by rw[h5 _ (List.getElem_mem hi)] at hj;exact hj
  obtain⟨u,h1,h2⟩:=hcell i hi j hj;rw[hE] at h1;have hlt:i*5+j<es.length*5:=by omega
  rw[hcur _ hlt,h1];have e:(es.map Ch)[i][j]=wk1 es[i][j]:=by simp[Ch]
  rw[e];exact ais (hex _ _ h2)
section
variable{S:Nat→List Shape}{E:Nat→gJ}{T:Nat→Et}{k m:Nat}
theorem afz(hE:E k = {f:=17,args:=[.arr 0],h:=[.arr 41 5 (.sym 0)],n:=1,fam:=m })
  (hS:S m=[{v:=.pv (.sym 1),h:=[.arr 41 5 (.sym 0)],m:=2 }]) (hT:T k=.ext aa4):aL Tryz.prog S E T k:=by
 refine aL.ext (by rw[hE]) hT fun l r hp hr=>?_
 unfold aa4 at hr;split at hr
 ·rename_i e es
  split at hr
  ·rename_i hc
   cases hr;unfold Cj at hc;rw[Bool.and_eq_true,List.all_eq_true,decide_eq_true_eq] at hc;have hns:NS (.rows (e::es)):=hp.ns _ List.mem_cons_self;have hnb:dQ (e::es)=true:=by
    have:=mE hns;rw[Ck] at this;exact this
   refine⟨?_,?_,?_,?_,?_⟩
   ·unfold tH BB
    simp only[hE,hS];exact ack (e::es) (by simp) (fun c hc'=>by simpa using hc.1 c hc') (by have:=hc.2;omega) hnb
   ·simp only[hE,hS];decide
   ·simp only[hE,hS];rfl
   ·intro p hp
    simp only[List.mem_cons,List.not_mem_nil,or_false] at hp;rcases hp with rfl|rfl
    ·exact hns
    ·exact abY hns
   ·simp only[hE,hS]
    exact fun i hi=>by cases hi
  ·cases hr
 ·cases hr
end
end Go.Proofs.YtfphhabaeggenaaGreatDoor
namespace Go.Proofs.YtfphhabaeggenaaGreatDoor
open Go.RowKit
set_option linter.all false
set_option maxRecDepth 100000
section
variable{S:Nat→List Shape}{E:Nat→gJ}{T:Nat→Et}{k m f:Nat}
theorem afA(ha:Sem Tryz.prog f [] [] (.pv (.lit (.bool true))) [])(hE:E k = {f:=f,args:=[],n:=0,fam:=m })(hS:S m=[{v:=.pv (.sym 0),m:=1 }])(hT:T k=.ext agh):aL Tryz.prog S E T k:=by
 refine aL.ext (by rw[hE]) hT fun l r hp hr=>?_
 unfold agh at hr;split at hr
 ·cases hr
  refine⟨?_,?_,?_,?_,?_⟩
  ·unfold tH BB
   simp only[hE,hS];exact ha
  ·simp only[hE,hS];decide
  ·simp only[hE,hS];rfl
  ·intro p hp
   rw[List.mem_singleton.1 hp];exact .lit _
  ·simp only[hE,hS]
   exact fun i hi=>by cases hi
 ·cases hr
theorem afy(hE:E k = {f:=47,args:=[.pv (.sym 0)],n:=1,fam:=m })(hS:S m=[{v:=.tup [.pv (.sym 0),.agg [.pv (.sym 1),.pv (.sym 2)]],m:=3 }])(hT:T k=.ext XO):aL Tryz.prog S E T k:=by
 refine aL.ext (by rw[hE]) hT fun l r hp hr=>?_
 unfold XO at hr;split at hr
 ·rename_i b
  split at hr
  ·rename_i hb
   cases hr;refine⟨?_,?_,?_,?_,?_⟩
   ·unfold tH BB
    simp only[hE,hS];have hs:=XQ b (by unfold maxLen;omega) (fun ts h e=>by have:=hb.2;rw[h,e] at this;cases this);unfold qb;cases h:Lx.scanP b with
    |ok ts=>rw[h] at hs;exact hs
    |error p=>rw[h] at hs;exact hs
   ·simp only[hE,hS];decide
   ·simp only[hE,hS];rfl
   ·have h1:NS (qb (Lx.scanP b)).1:=by
     unfold qb;cases h:Lx.scanP b with
     |ok ts=>
      refine .rows _ fun c hc p hp=>?_
      obtain⟨t,_,rfl⟩:=List.mem_map.1 hc;simp only[Tk.cells,List.mem_cons,List.not_mem_nil,or_false] at hp;rcases hp with rfl|rfl|rfl|rfl<;>exact .lit _
     |error p=>exact .lit _
    intro p hp;simp only[List.mem_cons,List.not_mem_nil,or_false] at hp;rcases hp with rfl|rfl|rfl
    ·exact h1
    ·exact .lit _
    ·exact .lit _
   ·simp only[hE,hS]
    exact fun i hi=>by cases hi
  ·cases hr
 ·cases hr
end
abbrev RKx:Nat→Prop:=aL PG SS EE TT
theorem anw:RKx 235:=afA (f:=5) (m:=171) WM (by kernel_rfl) (by kernel_rfl) (by kernel_rfl)
theorem anv:RKx 236:=afy (m:=172) (by kernel_rfl) (by kernel_rfl) (by kernel_rfl)
theorem anu:RKx 237:=KN (f:=17) (n:=5) (m:=173) WE asP (by kernel_rfl) (by kernel_rfl) (by kernel_rfl)
theorem ant:RKx 238:=afz (m:=174) (by kernel_rfl) (by kernel_rfl) (by kernel_rfl)
theorem anr:RKx 239:=KN (f:=18) (n:=6) (m:=175) WC asO (by kernel_rfl) (by kernel_rfl) (by kernel_rfl)
theorem anq:RKx 240:=KN (f:=19) (n:=8) (m:=176) WB asN (by kernel_rfl) (by kernel_rfl) (by kernel_rfl)
end Go.Proofs.YtfphhabaeggenaaGreatDoor
