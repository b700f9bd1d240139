/- Joined texts. -/
import Derived.Test.YtfphhabaeggenaaDoorBc
import Derived.Test.YtfphhabaeggenaaDoorProg
import Derived.KernelRfl
set_option linter.all false
namespace Go.Proofs.YtfphhabaeggenaaDoor
open Go.RowKit
theorem mixed:Tryd.prog.follows .mixedOrders=true:=by kernel_rfl
def t27:FT where
 keep:=[]
 kb:=fun
  |0=>[17,16,15,6,0,5]
  |2=>[6,0,9,10,7,17,16,15,5]
  |5=>[14,5,6]
  |_=>[]
 sd:=fun
  |_=>[]
theorem f27_at:Tryd.prog.funcs[27]? = some Tryd.f27:=by kernel_rfl
def t49:FT where
 keep:=[]
 kb:=fun
  |_=>[]
 sd:=fun
  |_=>[]
theorem f49_at:Tryd.prog.funcs[49]? = some Tryd.f49:=by kernel_rfl
def t29:FT where
 keep:=[]
 kb:=fun
  |_=>[]
 sd:=fun
  |_=>[]
theorem f29_at:Tryd.prog.funcs[29]? = some Tryd.f29:=by kernel_rfl
def t7:FT where
 keep:=[]
 kb:=fun
  |_=>[]
 sd:=fun
  |_=>[]
theorem f7_at:Tryd.prog.funcs[7]? = some Tryd.f7:=by kernel_rfl
def t6:FT where
 keep:=[]
 kb:=fun
  |_=>[]
 sd:=fun
  |_=>[]
theorem f6_at:Tryd.prog.funcs[6]? = some Tryd.f6:=by kernel_rfl
def t12:FT where
 keep:=[]
 kb:=fun
  |_=>[]
 sd:=fun
  |3=>[(0,true),(1,true),(2,false),(3,false)]
  |_=>[]
 rs:=[4,5]
 df:=true
theorem f12_at:Tryd.prog.funcs[12]? = some Tryd.f12:=by kernel_rfl
def t10:FT where
 keep:=[]
 kb:=fun
  |_=>[]
 sd:=fun
  |3=>[(0,true),(1,true),(2,false),(3,false)]
  |_=>[]
 rs:=[4,5]
 df:=true
theorem f10_at:Tryd.prog.funcs[10]? = some Tryd.f10:=by kernel_rfl
def t13:FT where
 keep:=[]
 kb:=fun
  |0=>[0,3,2]
  |_=>[]
 sd:=fun
  |6=>[(0,true),(1,true),(2,true),(3,false),(4,false),(5,false),(6,true),(7,false)]
  |8=>[(0,true),(1,true),(2,true),(3,false),(4,false),(5,false),(6,true),(7,false)]
  |10=>[(0,true),(1,true),(2,true),(3,false),(4,false),(5,false),(6,true),(7,false)]
  |4=>[(0,true),(1,true),(2,true),(3,false),(4,false),(5,false),(6,true),(7,false)]
  |_=>[]
theorem f13_at:Tryd.prog.funcs[13]? = some Tryd.f13:=by kernel_rfl
def t22:FT where
 keep:=[]
 kb:=fun
  |_=>[]
 sd:=fun
  |_=>[]
theorem f22_at:Tryd.prog.funcs[22]? = some Tryd.f22:=by kernel_rfl
def t11:FT where
 keep:=[]
 kb:=fun
  |0=>[0,4,5,3,2]
  |2=>[67,66,9,6,3,4,2]
  |4=>[77,76,75,9,3,4,2]
  |6=>[9,13,3,4,12,14,77,76,75,2]
  |_=>[]
 sd:=fun
  |24=>[(0,true),(1,true),(2,true),(3,true),(4,true),(5,true),(6,true),(7,true),(8,true),(9,true),(10,true),(11,true),(12,true),(13,true),(14,false),(15,true),(16,false)]
  |_=>[]
 rs:=[2]
 df:=true
theorem f11_at:Tryd.prog.funcs[11]? = some Tryd.f11:=by kernel_rfl
def t25:FT where
 keep:=[]
 kb:=fun
  |_=>[]
 sd:=fun
  |1=>[(0,true),(1,true),(2,true),(3,true),(4,true),(5,true),(6,true),(7,true),(8,true),(9,true),(10,false)]
  |_=>[]
theorem f25_at:Tryd.prog.funcs[25]? = some Tryd.f25:=by kernel_rfl
def t31:FT where
 keep:=[]
 kb:=fun
  |_=>[]
 sd:=fun
  |_=>[]
theorem f31_at:Tryd.prog.funcs[31]? = some Tryd.f31:=by kernel_rfl
def t32:FT where
 keep:=[]
 kb:=fun
  |0=>[0,4,2]
  |2=>[0,4,2]
  |4=>[0,6,4,2]
  |_=>[]
 sd:=fun
  |4=>[(0,true),(1,true),(2,true),(3,false),(4,true),(5,false),(6,false),(7,true),(8,false)]
  |9=>[(0,true),(1,true),(2,true),(3,false),(4,false),(5,false),(6,true),(7,false)]
  |_=>[]
theorem f32_at:Tryd.prog.funcs[32]? = some Tryd.f32:=by kernel_rfl
def t35:FT where
 keep:=[]
 kb:=fun
  |_=>[]
 sd:=fun
  |_=>[]
theorem f35_at:Tryd.prog.funcs[35]? = some Tryd.f35:=by kernel_rfl
def t33:FT where
 keep:=[]
 kb:=fun
  |0=>[0,4,2]
  |_=>[]
 sd:=fun
  |8=>[(0,true),(1,true),(2,true),(3,false),(4,false),(5,false),(6,true),(7,false)]
  |11=>[(0,true),(1,true),(2,true),(3,true),(4,true),(6,true),(7,true),(5,false),(8,true),(9,false),(10,false),(11,true),(12,false)]
  |_=>[]
 sx:=fun
  |2=>some (.look 0 (.look 1 (.look 2 (.look 5 (.look 6 (.eff (.cons 3 (.look 4 (.look 7 (.eff (.cons 8 (.eff (.cons 9 (.done) (.nil))) (.nil))))) (.cons 8 (.eff (.cons 3 (.look 4 (.look 7 (.eff (.cons 9 (.done) (.nil))))) (.nil))) (.nil)))))))),[0,4,2])
  |_=>none
theorem f33_at:Tryd.prog.funcs[33]? = some Tryd.f33:=by kernel_rfl
def t34:FT where
 keep:=[]
 kb:=fun
  |0=>[0,4,2]
  |2=>[0,4,2]
  |_=>[]
 sd:=fun
  |5=>[(0,true),(1,true),(2,true),(3,true),(4,false),(5,true),(6,true),(7,true),(8,false),(9,false),(10,true),(11,false)]
  |10=>[(0,true),(1,true),(2,true),(3,false),(4,false),(5,false),(6,true),(7,false)]
  |_=>[]
 sx:=fun
  |2=>some (.look 0 (.look 1 (.look 2 (.look 4 (.look 5 (.eff (.cons 3 (.look 6 (.eff (.cons 7 (.eff (.cons 8 (.done) (.nil))) (.nil)))) (.cons 7 (.eff (.cons 3 (.look 6 (.eff (.cons 8 (.done) (.nil)))) (.nil))) (.nil)))))))),[0,4,2])
  |_=>none
theorem f34_at:Tryd.prog.funcs[34]? = some Tryd.f34:=by kernel_rfl
def t36:FT where
 keep:=[]
 kb:=fun
  |_=>[]
 sd:=fun
  |3=>[(0,true),(1,true),(2,true),(4,true),(5,true),(3,false),(6,true),(7,false)]
  |_=>[]
theorem f36_at:Tryd.prog.funcs[36]? = some Tryd.f36:=by kernel_rfl
def t28:FT where
 keep:=[]
 kb:=fun
  |_=>[]
 sd:=fun
  |_=>[]
theorem f28_at:Tryd.prog.funcs[28]? = some Tryd.f28:=by kernel_rfl
def t26:FT where
 keep:=[]
 kb:=fun
  |_=>[]
 sd:=fun
  |_=>[]
theorem f26_at:Tryd.prog.funcs[26]? = some Tryd.f26:=by kernel_rfl
def t23:FT where
 keep:=[]
 kb:=fun
  |_=>[]
 sd:=fun
  |3=>[(0,true),(1,true),(2,true),(3,true),(4,false),(5,true),(6,false)]
  |_=>[]
theorem f23_at:Tryd.prog.funcs[23]? = some Tryd.f23:=by kernel_rfl
def t24:FT where
 keep:=[]
 kb:=fun
  |1=>[0,6,3,2]
  |_=>[]
 sd:=fun
  |13=>[(0,true),(1,true),(2,true),(5,true),(6,true),(3,false),(4,false),(7,true),(8,false)]
  |_=>[]
theorem f24_at:Tryd.prog.funcs[24]? = some Tryd.f24:=by kernel_rfl
def t44:FT where
 keep:=[]
 kb:=fun
  |_=>[]
 sd:=fun
  |_=>[]
theorem f44_at:Tryd.prog.funcs[44]? = some Tryd.f44:=by kernel_rfl
def t52:FT where
 keep:=[]
 kb:=fun
  |0=>[0,3]
  |_=>[]
 sd:=fun
  |_=>[]
theorem f52_at:Tryd.prog.funcs[52]? = some Tryd.f52:=by kernel_rfl
def t50:FT where
 keep:=[]
 kb:=fun
  |_=>[]
 sd:=fun
  |_=>[]
theorem f50_at:Tryd.prog.funcs[50]? = some Tryd.f50:=by kernel_rfl
def t51:FT where
 keep:=[]
 kb:=fun
  |_=>[]
 sd:=fun
  |_=>[]
theorem f51_at:Tryd.prog.funcs[51]? = some Tryd.f51:=by kernel_rfl
def t53:FT where
 keep:=[]
 kb:=fun
  |_=>[]
 sd:=fun
  |_=>[]
theorem f53_at:Tryd.prog.funcs[53]? = some Tryd.f53:=by kernel_rfl
def t54:FT where
 keep:=[]
 kb:=fun
  |_=>[]
 sd:=fun
  |4=>[(0,true),(1,true),(2,false),(3,false),(4,true),(5,false)]
  |_=>[]
 rs:=[2]
 df:=true
theorem f54_at:Tryd.prog.funcs[54]? = some Tryd.f54:=by kernel_rfl
def t45:FT where
 keep:=[]
 kb:=fun
  |0=>[0,5,1,4]
  |2=>[7,5,6,1,4]
  |_=>[]
 sd:=fun
  |9=>[(0,true),(1,true),(2,true),(3,true),(4,true),(5,true),(7,true),(8,true),(9,true),(10,true),(11,true),(6,false),(12,true),(13,false)]
  |_=>[]
theorem f45_at:Tryd.prog.funcs[45]? = some Tryd.f45:=by kernel_rfl
def t46:FT where
 keep:=[]
 kb:=fun
  |0=>[0,3,2]
  |_=>[]
 sd:=fun
  |4=>[(0,true),(1,true),(2,true),(3,false),(4,false),(5,false),(6,true),(7,false)]
  |6=>[(0,true),(1,true),(2,true),(3,false),(4,false),(5,false),(6,true),(7,false)]
  |_=>[]
theorem f46_at:Tryd.prog.funcs[46]? = some Tryd.f46:=by kernel_rfl
def t47:FT where
 keep:=[]
 kb:=fun
  |_=>[]
 sd:=fun
  |_=>[]
theorem f47_at:Tryd.prog.funcs[47]? = some Tryd.f47:=by kernel_rfl
def t48:FT where
 keep:=[]
 kb:=fun
  |_=>[]
 sd:=fun
  |_=>[]
theorem f48_at:Tryd.prog.funcs[48]? = some Tryd.f48:=by kernel_rfl
def t69:FT where
 keep:=[]
 kb:=fun
  |0=>[0,3,2]
  |_=>[]
 sd:=fun
  |5=>[(0,true),(1,true),(2,true),(3,false),(4,false),(5,false),(6,true),(7,false)]
  |_=>[]
theorem f69_at:Tryd.prog.funcs[69]? = some Tryd.f69:=by kernel_rfl
def t67:FT where
 keep:=[]
 kb:=fun
  |0=>[0,5,4]
  |_=>[]
 sd:=fun
  |_=>[]
theorem f67_at:Tryd.prog.funcs[67]? = some Tryd.f67:=by kernel_rfl
def t68:FT where
 keep:=[]
 kb:=fun
  |_=>[]
 sd:=fun
  |_=>[]
 sx:=fun
  |9=>some (.look 0 (.look 2 (.look 4 (.eff (.cons 1 (.eff (.cons 3 (.look 5 (.eff (.cons 6 (.done) (.nil)))) (.nil))) (.cons 3 (.eff (.cons 1 (.look 5 (.eff (.cons 6 (.done) (.nil)))) (.nil))) (.nil)))))),[0,6,4])
  |_=>none
theorem f68_at:Tryd.prog.funcs[68]? = some Tryd.f68:=by kernel_rfl
def t76:FT where
 keep:=[]
 kb:=fun
  |0=>[3,0,4,2]
  |_=>[]
 sd:=fun
  |5=>[(0,true),(1,true),(2,true),(3,false),(4,false),(5,false),(6,true),(7,false)]
  |_=>[]
 rs:=[2]
 df:=true
theorem f76_at:Tryd.prog.funcs[76]? = some Tryd.f76:=by kernel_rfl
def t83:FT where
 keep:=[]
 kb:=fun
  |_=>[]
 sd:=fun
  |_=>[]
theorem f83_at:Tryd.prog.funcs[83]? = some Tryd.f83:=by kernel_rfl
def t84:FT where
 keep:=[]
 kb:=fun
  |_=>[]
 sd:=fun
  |_=>[]
theorem f84_at:Tryd.prog.funcs[84]? = some Tryd.f84:=by kernel_rfl
def t8:FT where
 keep:=[]
 kb:=fun
  |0=>[5,2,3]
  |2=>[6,2,3]
  |4=>[7,2,3]
  |_=>[]
 sd:=fun
  |6=>[(0,true),(1,true),(2,true),(3,true),(4,true),(5,true),(6,true),(7,true),(8,true),(9,true),(10,false),(11,true)]
  |11=>[(0,true),(1,true),(2,true),(3,true),(4,true),(5,true),(6,true),(7,true),(8,true),(9,true),(10,false),(11,true)]
  |16=>[(0,true),(1,true),(2,true),(3,true),(4,true),(5,true),(6,true),(7,true),(8,true),(9,true),(10,false),(11,true)]
  |_=>[]
theorem f8_at:Tryd.prog.funcs[8]? = some Tryd.f8:=by kernel_rfl
def t9:FT where
 keep:=[]
 kb:=fun
  |0=>[5,2,3]
  |2=>[6,2,3]
  |_=>[]
 sd:=fun
  |6=>[(0,true),(1,true),(2,true),(3,true),(4,true),(5,true),(6,true),(7,true),(8,true),(9,true),(10,false),(11,true)]
  |11=>[(0,true),(1,true),(2,true),(3,true),(4,true),(5,true),(6,true),(7,true),(8,true),(9,true),(10,true),(11,true),(12,false),(13,true),(14,true),(15,true),(16,true),(17,true),(18,true),(19,true),(20,true),(21,true),(22,true),(23,true),(24,true),(25,true),(26,true),(27,false),(28,true),(29,true)]
  |_=>[]
theorem f9_at:Tryd.prog.funcs[9]? = some Tryd.f9:=by kernel_rfl
def t14:FT where
 keep:=[]
 kb:=fun
  |0=>[5,2,3]
  |_=>[]
 sd:=fun
  |6=>[(0,true),(1,true),(2,true),(3,true),(4,true),(5,true),(6,true),(7,true),(8,true),(9,true),(10,true),(11,true),(12,true),(13,true),(14,true),(15,true),(16,true),(17,true),(18,true),(19,true),(20,true),(21,true),(22,true),(23,true),(24,true),(25,true),(26,false),(27,true),(28,true)]
  |_=>[]
theorem f14_at:Tryd.prog.funcs[14]? = some Tryd.f14:=by kernel_rfl
def t15:FT where
 keep:=[]
 kb:=fun
  |0=>[5,2,3]
  |_=>[]
 sd:=fun
  |6=>[(0,true),(1,true),(2,true),(3,true),(4,true),(5,true),(6,true),(7,true),(8,true),(9,true),(10,true),(11,true),(12,true),(13,true),(14,true),(15,true),(16,true),(17,true),(18,true),(19,true),(20,true),(21,true),(22,true),(23,true),(24,true),(25,true),(26,false),(27,true),(28,true)]
  |_=>[]
theorem f15_at:Tryd.prog.funcs[15]? = some Tryd.f15:=by kernel_rfl
def t16:FT where
 keep:=[]
 kb:=fun
  |0=>[5,2,3]
  |_=>[]
 sd:=fun
  |6=>[(0,true),(1,true),(2,true),(3,true),(4,true),(5,true),(6,true),(7,true),(8,true),(9,true),(10,true),(11,true),(12,true),(13,true),(14,true),(15,true),(16,true),(17,true),(18,true),(19,true),(20,true),(21,true),(22,true),(23,true),(24,true),(25,true),(26,false),(27,true),(28,true)]
  |_=>[]
theorem f16_at:Tryd.prog.funcs[16]? = some Tryd.f16:=by kernel_rfl
def t17:FT where
 keep:=[]
 kb:=fun
  |0=>[5,0,1]
  |_=>[]
 sd:=fun
  |6=>[(0,true),(1,true),(2,true),(3,true),(4,true),(5,true),(6,true),(7,true),(8,true),(9,true),(10,true),(11,true),(12,true),(13,true),(14,true),(15,true),(16,true),(17,true),(18,true),(19,true),(20,true),(21,true),(22,false),(23,true),(24,true)]
  |_=>[]
theorem f17_at:Tryd.prog.funcs[17]? = some Tryd.f17:=by kernel_rfl
def t18:FT where
 keep:=[]
 kb:=fun
  |_=>[]
 sd:=fun
  |_=>[]
theorem f18_at:Tryd.prog.funcs[18]? = some Tryd.f18:=by kernel_rfl
def t19:FT where
 keep:=[]
 kb:=fun
  |0=>[5,2,3]
  |_=>[]
 sd:=fun
  |6=>[(0,true),(1,true),(2,true),(3,true),(4,true),(5,true),(6,true),(7,true),(8,true),(9,true),(10,false),(11,true)]
  |_=>[]
theorem f19_at:Tryd.prog.funcs[19]? = some Tryd.f19:=by kernel_rfl
def t37:FT where
 keep:=[]
 kb:=fun
  |0=>[5,0,1]
  |_=>[]
 sd:=fun
  |6=>[(0,true),(1,true),(2,true),(3,true),(4,true),(5,true),(6,true),(7,true),(8,true)]
  |_=>[]
theorem f37_at:Tryd.prog.funcs[37]? = some Tryd.f37:=by kernel_rfl
def t38:FT where
 keep:=[]
 kb:=fun
  |0=>[5,0,1]
  |_=>[]
 sd:=fun
  |6=>[(0,true),(1,true),(2,true),(3,true),(4,true),(5,true),(6,true),(7,true),(8,false),(9,true)]
  |_=>[]
theorem f38_at:Tryd.prog.funcs[38]? = some Tryd.f38:=by kernel_rfl
def bitsN:Nat→Nat→List Bool
 |0,_=>[]
 |n+1,b=>Nat.beq (b%2) 1::bitsN n (b/2)
def net4:List Nd:=[⟨bitsN 31 0x0,31,.look 1 1⟩,
⟨bitsN 31 0x2,30,.look 2 2⟩,
⟨bitsN 31 0x6,29,.look 4 3⟩,
⟨bitsN 31 0x16,28,.look 5 4⟩,
⟨bitsN 31 0x36,27,.look 8 5⟩,
⟨bitsN 31 0x136,26,.look 9 6⟩,
⟨bitsN 31 0x336,25,.look 11 7⟩,
⟨bitsN 31 0xb36,24,.look 12 8⟩,
⟨bitsN 31 0x1b36,23,.look 15 9⟩,
⟨bitsN 31 0x9b36,22,.look 16 10⟩,
⟨bitsN 31 0x19b36,21,.look 18 11⟩,
⟨bitsN 31 0x59b36,20,.look 19 12⟩,
⟨bitsN 31 0xd9b36,19,.look 22 13⟩,
⟨bitsN 31 0x4d9b36,18,.look 23 14⟩,
⟨bitsN 31 0xcd9b36,17,.look 25 15⟩,
⟨bitsN 31 0x2cd9b36,16,.look 26 16⟩,
⟨bitsN 31 0x6cd9b36,15,.eff [(0,17),(7,18),(14,19),(21,20),(29,21)]⟩,
⟨bitsN 31 0x6cd9b37,14,.eff [(3,22),(7,23),(14,24),(21,25),(29,26)]⟩,
⟨bitsN 31 0x6cd9bb6,14,.eff [(0,23),(14,27),(21,28),(29,29)]⟩,
⟨bitsN 31 0x6cddb36,14,.eff [(0,24),(7,27),(21,30),(29,31)]⟩,
⟨bitsN 31 0x6ed9b36,14,.eff [(0,25),(7,28),(14,30),(29,32)]⟩,
⟨bitsN 31 0x26cd9b36,14,.eff [(0,26),(7,29),(14,31),(21,32)]⟩,
⟨bitsN 31 0x6cd9b3f,13,.eff [(6,33),(7,34),(14,35),(21,36),(29,37)]⟩,
⟨bitsN 31 0x6cd9bb7,13,.eff [(3,34),(14,38),(21,39),(29,40)]⟩,
⟨bitsN 31 0x6cddb37,13,.eff [(3,35),(7,38),(21,41),(29,42)]⟩,
⟨bitsN 31 0x6ed9b37,13,.eff [(3,36),(7,39),(14,41),(29,43)]⟩,
⟨bitsN 31 0x26cd9b37,13,.eff [(3,37),(7,40),(14,42),(21,43)]⟩,
⟨bitsN 31 0x6cddbb6,13,.eff [(0,38),(21,44),(29,45)]⟩,
⟨bitsN 31 0x6ed9bb6,13,.eff [(0,39),(14,44),(29,46)]⟩,
⟨bitsN 31 0x26cd9bb6,13,.eff [(0,40),(14,45),(21,46)]⟩,
⟨bitsN 31 0x6eddb36,13,.eff [(0,41),(7,44),(29,47)]⟩,
⟨bitsN 31 0x26cddb36,13,.eff [(0,42),(7,45),(21,47)]⟩,
⟨bitsN 31 0x26ed9b36,13,.eff [(0,43),(7,46),(14,47)]⟩,
⟨bitsN 31 0x6cd9b7f,12,.eff [(7,48),(14,49),(21,50),(29,51)]⟩,
⟨bitsN 31 0x6cd9bbf,12,.eff [(6,48),(14,52),(21,53),(29,54)]⟩,
⟨bitsN 31 0x6cddb3f,12,.eff [(6,49),(7,52),(21,55),(29,56)]⟩,
⟨bitsN 31 0x6ed9b3f,12,.eff [(6,50),(7,53),(14,55),(29,57)]⟩,
⟨bitsN 31 0x26cd9b3f,12,.eff [(6,51),(7,54),(14,56),(21,57)]⟩,
⟨bitsN 31 0x6cddbb7,12,.eff [(3,52),(21,58),(29,59)]⟩,
⟨bitsN 31 0x6ed9bb7,12,.eff [(3,53),(14,58),(29,60)]⟩,
⟨bitsN 31 0x26cd9bb7,12,.eff [(3,54),(14,59),(21,60)]⟩,
⟨bitsN 31 0x6eddb37,12,.eff [(3,55),(7,58),(29,61)]⟩,
⟨bitsN 31 0x26cddb37,12,.eff [(3,56),(7,59),(21,61)]⟩,
⟨bitsN 31 0x26ed9b37,12,.eff [(3,57),(7,60),(14,61)]⟩,
⟨bitsN 31 0x6eddbb6,12,.eff [(0,58),(29,62)]⟩,
⟨bitsN 31 0x26cddbb6,12,.eff [(0,59),(21,62)]⟩,
⟨bitsN 31 0x26ed9bb6,12,.eff [(0,60),(14,62)]⟩,
⟨bitsN 31 0x26eddb36,12,.eff [(0,61),(7,62)]⟩,
⟨bitsN 31 0x6cd9bff,11,.eff [(10,63),(14,64),(21,65),(29,66)]⟩,
⟨bitsN 31 0x6cddb7f,11,.eff [(7,64),(21,67),(29,68)]⟩,
⟨bitsN 31 0x6ed9b7f,11,.eff [(7,65),(14,67),(29,69)]⟩,
⟨bitsN 31 0x26cd9b7f,11,.eff [(7,66),(14,68),(21,69)]⟩,
⟨bitsN 31 0x6cddbbf,11,.eff [(6,64),(21,70),(29,71)]⟩,
⟨bitsN 31 0x6ed9bbf,11,.eff [(6,65),(14,70),(29,72)]⟩,
⟨bitsN 31 0x26cd9bbf,11,.eff [(6,66),(14,71),(21,72)]⟩,
⟨bitsN 31 0x6eddb3f,11,.eff [(6,67),(7,70),(29,73)]⟩,
⟨bitsN 31 0x26cddb3f,11,.eff [(6,68),(7,71),(21,73)]⟩,
⟨bitsN 31 0x26ed9b3f,11,.eff [(6,69),(7,72),(14,73)]⟩,
⟨bitsN 31 0x6eddbb7,11,.eff [(3,70),(29,74)]⟩,
⟨bitsN 31 0x26cddbb7,11,.eff [(3,71),(21,74)]⟩,
⟨bitsN 31 0x26ed9bb7,11,.eff [(3,72),(14,74)]⟩,
⟨bitsN 31 0x26eddb37,11,.eff [(3,73),(7,74)]⟩,
⟨bitsN 31 0x26eddbb6,11,.eff [(0,74)]⟩,
⟨bitsN 31 0x6cd9fff,10,.eff [(13,75),(14,76),(21,77),(29,78)]⟩,
⟨bitsN 31 0x6cddbff,10,.eff [(10,76),(21,79),(29,80)]⟩,
⟨bitsN 31 0x6ed9bff,10,.eff [(10,77),(14,79),(29,81)]⟩,
⟨bitsN 31 0x26cd9bff,10,.eff [(10,78),(14,80),(21,81)]⟩,
⟨bitsN 31 0x6eddb7f,10,.eff [(7,79),(29,82)]⟩,
⟨bitsN 31 0x26cddb7f,10,.eff [(7,80),(21,82)]⟩,
⟨bitsN 31 0x26ed9b7f,10,.eff [(7,81),(14,82)]⟩,
⟨bitsN 31 0x6eddbbf,10,.eff [(6,79),(29,83)]⟩,
⟨bitsN 31 0x26cddbbf,10,.eff [(6,80),(21,83)]⟩,
⟨bitsN 31 0x26ed9bbf,10,.eff [(6,81),(14,83)]⟩,
⟨bitsN 31 0x26eddb3f,10,.eff [(6,82),(7,83)]⟩,
⟨bitsN 31 0x26eddbb7,10,.eff [(3,83)]⟩,
⟨bitsN 31 0x6cdbfff,9,.eff [(14,84),(21,85),(29,86)]⟩,
⟨bitsN 31 0x6cddfff,9,.eff [(13,84),(21,87),(29,88)]⟩,
⟨bitsN 31 0x6ed9fff,9,.eff [(13,85),(14,87),(29,89)]⟩,
⟨bitsN 31 0x26cd9fff,9,.eff [(13,86),(14,88),(21,89)]⟩,
⟨bitsN 31 0x6eddbff,9,.eff [(10,87),(29,90)]⟩,
⟨bitsN 31 0x26cddbff,9,.eff [(10,88),(21,90)]⟩,
⟨bitsN 31 0x26ed9bff,9,.eff [(10,89),(14,90)]⟩,
⟨bitsN 31 0x26eddb7f,9,.eff [(7,90)]⟩,
⟨bitsN 31 0x26eddbbf,9,.eff [(6,90)]⟩,
⟨bitsN 31 0x6cdffff,8,.eff [(17,91),(21,92),(29,93)]⟩,
⟨bitsN 31 0x6edbfff,8,.eff [(14,92),(29,94)]⟩,
⟨bitsN 31 0x26cdbfff,8,.eff [(14,93),(21,94)]⟩,
⟨bitsN 31 0x6eddfff,8,.eff [(13,92),(29,95)]⟩,
⟨bitsN 31 0x26cddfff,8,.eff [(13,93),(21,95)]⟩,
⟨bitsN 31 0x26ed9fff,8,.eff [(13,94),(14,95)]⟩,
⟨bitsN 31 0x26eddbff,8,.eff [(10,95)]⟩,
⟨bitsN 31 0x6cfffff,7,.eff [(20,96),(21,97),(29,98)]⟩,
⟨bitsN 31 0x6edffff,7,.eff [(17,97),(29,99)]⟩,
⟨bitsN 31 0x26cdffff,7,.eff [(17,98),(21,99)]⟩,
⟨bitsN 31 0x26edbfff,7,.eff [(14,99)]⟩,
⟨bitsN 31 0x26eddfff,7,.eff [(13,99)]⟩,
⟨bitsN 31 0x6dfffff,6,.eff [(21,100),(29,101)]⟩,
⟨bitsN 31 0x6efffff,6,.eff [(20,100),(29,102)]⟩,
⟨bitsN 31 0x26cfffff,6,.eff [(20,101),(21,102)]⟩,
⟨bitsN 31 0x26edffff,6,.eff [(17,102)]⟩,
⟨bitsN 31 0x6ffffff,5,.eff [(24,103),(29,104)]⟩,
⟨bitsN 31 0x26dfffff,5,.eff [(21,104)]⟩,
⟨bitsN 31 0x26efffff,5,.eff [(20,104)]⟩,
⟨bitsN 31 0x7ffffff,4,.eff [(27,105),(29,106)]⟩,
⟨bitsN 31 0x26ffffff,4,.eff [(24,106)]⟩,
⟨bitsN 31 0xfffffff,3,.look 28 107⟩,
⟨bitsN 31 0x27ffffff,3,.eff [(27,108)]⟩,
⟨bitsN 31 0x1fffffff,2,.eff [(29,109)]⟩,
⟨bitsN 31 0x2fffffff,2,.look 28 109⟩,
⟨bitsN 31 0x3fffffff,1,.eff [(30,110)]⟩,
⟨bitsN 31 0x7fffffff,0,.done⟩]
def t4:FT where
 keep:=[]
 kb:=fun
  |_=>[]
 sd:=fun
  |_=>[]
 sx:=fun
  |9=>some (.net net4 [0,5,7,9,10,11,52,53,54,55,56,57,58,59,60,61,62,63,64,65,66,67,68,69,70,71,72,73,74,75,76,77,78,79,80],[10,9,11,0])
  |_=>none
theorem f4_at:Tryd.prog.funcs[4]? = some Tryd.f4:=by kernel_rfl
theorem f4_body:Tryd.f4.body.isSome=true:=by kernel_rfl
theorem f4_tab:tabOk t4.sd t4.sx (bodyOf Tryd.f4)=true:=by kernel_rfl
def T4:Tr:=.alt (.call ⟨5,[],[],.pv (.lit (.bool true)),[]⟩ 0 (.say (.len 9 (.pv (.sym 0)) (.pv (.sym 2))) 1 (.alt (.say (.bin .gtr 3 (.pv (.sym 2)) (.pv (.lit (.int .i64 2000))) (.pv (.lit (.bool true)))) 0 (.ret (.pv (.lit (.bool true))) [])) (.say (.bin .gtr 3 (.pv (.sym 2)) (.pv (.lit (.int .i64 2000))) (.pv (.lit (.bool false)))) 0 (.say (.len 9 (.pv (.sym 1)) (.pv (.sym 3))) 1 (.alt (.say (.bin .gtr 3 (.pv (.sym 3)) (.pv (.lit (.int .i64 2000))) (.pv (.lit (.bool true)))) 0 (.ret (.pv (.lit (.bool true))) [])) (.say (.bin .gtr 3 (.pv (.sym 3)) (.pv (.lit (.int .i64 2000))) (.pv (.lit (.bool false)))) 0 (.call ⟨7,[.pv (.sym 0)],[],.tup [.agg [.pv (.sym 4),.pv (.sym 5),.pv (.sym 6),.pv (.sym 7)],.agg [.pv (.sym 8),.pv (.sym 9)]],[]⟩ 6 (.call ⟨7,[.pv (.sym 1)],[],.tup [.agg [.pv (.sym 10),.pv (.sym 11),.pv (.sym 12),.pv (.sym 13)],.agg [.pv (.sym 14),.pv (.sym 15)]],[]⟩ 6 (.say (.bin .add 9 (.pv (.sym 0)) (.pv (.lit (.string ⟨#[10]⟩))) (.pv (.sym 16))) 1 (.say (.bin .add 9 (.pv (.sym 16)) (.pv (.sym 1)) (.pv (.sym 17))) 1 (.call ⟨7,[.pv (.sym 17)],[],.tup [.agg [.pv (.sym 18),.pv (.sym 19),.pv (.sym 20),.pv (.sym 21)],.agg [.pv (.sym 22),.pv (.sym 23)]],[]⟩ 6 (.alt (.say (.bin .eql 33 (.pv (.sym 8)) (.pv (.lit (.int .i64 0))) (.pv (.lit (.bool true)))) 0 (.alt (.say (.bin .eql 33 (.pv (.sym 14)) (.pv (.lit (.int .i64 0))) (.pv (.lit (.bool true)))) 0 (.say (.app 39 (.pv (.rows [])) (.pv (.sym 4)) 24) 1 (.say (.app 39 (.pv (.sym 24)) (.pv (.sym 10)) 25) 1 (.say (.app 40 (.pv (.rows [])) (.pv (.sym 5)) 26) 1 (.say (.app 40 (.pv (.sym 26)) (.pv (.sym 11)) 27) 1 (.say (.app 41 (.pv (.rows [])) (.pv (.sym 6)) 28) 1 (.say (.app 41 (.pv (.sym 28)) (.pv (.sym 12)) 29) 1 (.say (.app 30 (.pv (.rows [])) (.pv (.sym 7)) 30) 1 (.say (.app 30 (.pv (.sym 30)) (.pv (.sym 13)) 31) 1 (.alt (.say (.bin .neq 33 (.pv (.sym 22)) (.pv (.lit (.int .i64 0))) (.pv (.lit (.bool true)))) 0 (.ret (.pv (.lit (.bool false))) [])) (.say (.bin .neq 33 (.pv (.sym 22)) (.pv (.lit (.int .i64 0))) (.pv (.lit (.bool false)))) 0 (.alt (.call ⟨8,[.agg [.pv (.sym 18),.pv (.sym 19),.pv (.sym 20),.pv (.sym 21)],.agg [.pv (.sym 25),.pv (.sym 27),.pv (.sym 29),.pv (.sym 31)]],[],.pv (.lit (.bool true)),[]⟩ 0 (.call ⟨6,[.pv (.sym 0)],[],.tup [.agg [.pv (.sym 32),.pv (.sym 33),.pv (.sym 34),.pv (.sym 35),.pv (.sym 36),.pv (.sym 37),.pv (.sym 38),.pv (.sym 39),.pv (.sym 40),.pv (.sym 41),.pv (.sym 42)],.agg [.pv (.sym 43),.pv (.sym 44)]],[]⟩ 13 (.say (.bin .add 9 (.pv (.lit (.string ⟨#[32,40,10]⟩))) (.pv (.sym 0)) (.pv (.sym 45))) 1 (.say (.bin .add 9 (.pv (.sym 45)) (.pv (.lit (.string ⟨#[10,41,9]⟩))) (.pv (.sym 46))) 1 (.call ⟨6,[.pv (.sym 46)],[],.tup [.agg [.pv (.sym 47),.pv (.sym 48),.pv (.sym 49),.pv (.sym 50),.pv (.sym 51),.pv (.sym 52),.pv (.sym 53),.pv (.sym 54),.pv (.sym 55),.pv (.sym 56),.pv (.sym 57)],.agg [.pv (.sym 58),.pv (.sym 59)]],[]⟩ 13 (.alt (.say (.bin .neq 33 (.pv (.sym 43)) (.pv (.lit (.int .i64 0))) (.pv (.lit (.bool true)))) 0 (.ret (.pv (.lit (.bool true))) [])) (.say (.bin .neq 33 (.pv (.sym 43)) (.pv (.lit (.int .i64 0))) (.pv (.lit (.bool false)))) 0 (.alt (.say (.bin .eql 33 (.pv (.sym 58)) (.pv (.lit (.int .i64 111))) (.pv (.lit (.bool true)))) 0 (.ret (.pv (.lit (.bool true))) [])) (.say (.bin .eql 33 (.pv (.sym 58)) (.pv (.lit (.int .i64 111))) (.pv (.lit (.bool false)))) 0 (.alt (.say (.bin .eql 33 (.pv (.sym 58)) (.pv (.lit (.int .i64 0))) (.pv (.lit (.bool true)))) 0 (.alt (.call ⟨9,[.agg [.pv (.sym 32),.pv (.sym 33),.pv (.sym 34),.pv (.sym 35),.pv (.sym 36),.pv (.sym 37),.pv (.sym 38),.pv (.sym 39),.pv (.sym 40),.pv (.sym 41),.pv (.sym 42)],.agg [.pv (.sym 47),.pv (.sym 48),.pv (.sym 49),.pv (.sym 50),.pv (.sym 51),.pv (.sym 52),.pv (.sym 53),.pv (.sym 54),.pv (.sym 55),.pv (.sym 56),.pv (.sym 57)]],[],.pv (.lit (.bool true)),[]⟩ 0 (.ret (.pv (.lit (.bool true))) [])) (.call ⟨9,[.agg [.pv (.sym 32),.pv (.sym 33),.pv (.sym 34),.pv (.sym 35),.pv (.sym 36),.pv (.sym 37),.pv (.sym 38),.pv (.sym 39),.pv (.sym 40),.pv (.sym 41),.pv (.sym 42)],.agg [.pv (.sym 47),.pv (.sym 48),.pv (.sym 49),.pv (.sym 50),.pv (.sym 51),.pv (.sym 52),.pv (.sym 53),.pv (.sym 54),.pv (.sym 55),.pv (.sym 56),.pv (.sym 57)]],[],.pv (.lit (.bool false)),[]⟩ 0 (.ret (.pv (.lit (.bool false))) [])))) (.say (.bin .eql 33 (.pv (.sym 58)) (.pv (.lit (.int .i64 0))) (.pv (.lit (.bool false)))) 0 (.ret (.pv (.lit (.bool false))) [])))))))))))) (.call ⟨8,[.agg [.pv (.sym 18),.pv (.sym 19),.pv (.sym 20),.pv (.sym 21)],.agg [.pv (.sym 25),.pv (.sym 27),.pv (.sym 29),.pv (.sym 31)]],[],.pv (.lit (.bool false)),[]⟩ 0 (.ret (.pv (.lit (.bool false))) [])))))))))))))) (.say (.bin .eql 33 (.pv (.sym 14)) (.pv (.lit (.int .i64 0))) (.pv (.lit (.bool false)))) 0 (.call ⟨6,[.pv (.sym 0)],[],.tup [.agg [.pv (.sym 24),.pv (.sym 25),.pv (.sym 26),.pv (.sym 27),.pv (.sym 28),.pv (.sym 29),.pv (.sym 30),.pv (.sym 31),.pv (.sym 32),.pv (.sym 33),.pv (.sym 34)],.agg [.pv (.sym 35),.pv (.sym 36)]],[]⟩ 13 (.say (.bin .add 9 (.pv (.lit (.string ⟨#[32,40,10]⟩))) (.pv (.sym 0)) (.pv (.sym 37))) 1 (.say (.bin .add 9 (.pv (.sym 37)) (.pv (.lit (.string ⟨#[10,41,9]⟩))) (.pv (.sym 38))) 1 (.call ⟨6,[.pv (.sym 38)],[],.tup [.agg [.pv (.sym 39),.pv (.sym 40),.pv (.sym 41),.pv (.sym 42),.pv (.sym 43),.pv (.sym 44),.pv (.sym 45),.pv (.sym 46),.pv (.sym 47),.pv (.sym 48),.pv (.sym 49)],.agg [.pv (.sym 50),.pv (.sym 51)]],[]⟩ 13 (.alt (.say (.bin .neq 33 (.pv (.sym 35)) (.pv (.lit (.int .i64 0))) (.pv (.lit (.bool true)))) 0 (.ret (.pv (.lit (.bool true))) [])) (.say (.bin .neq 33 (.pv (.sym 35)) (.pv (.lit (.int .i64 0))) (.pv (.lit (.bool false)))) 0 (.alt (.say (.bin .eql 33 (.pv (.sym 50)) (.pv (.lit (.int .i64 111))) (.pv (.lit (.bool true)))) 0 (.ret (.pv (.lit (.bool true))) [])) (.say (.bin .eql 33 (.pv (.sym 50)) (.pv (.lit (.int .i64 111))) (.pv (.lit (.bool false)))) 0 (.alt (.say (.bin .eql 33 (.pv (.sym 50)) (.pv (.lit (.int .i64 0))) (.pv (.lit (.bool true)))) 0 (.alt (.call ⟨9,[.agg [.pv (.sym 24),.pv (.sym 25),.pv (.sym 26),.pv (.sym 27),.pv (.sym 28),.pv (.sym 29),.pv (.sym 30),.pv (.sym 31),.pv (.sym 32),.pv (.sym 33),.pv (.sym 34)],.agg [.pv (.sym 39),.pv (.sym 40),.pv (.sym 41),.pv (.sym 42),.pv (.sym 43),.pv (.sym 44),.pv (.sym 45),.pv (.sym 46),.pv (.sym 47),.pv (.sym 48),.pv (.sym 49)]],[],.pv (.lit (.bool true)),[]⟩ 0 (.ret (.pv (.lit (.bool true))) [])) (.call ⟨9,[.agg [.pv (.sym 24),.pv (.sym 25),.pv (.sym 26),.pv (.sym 27),.pv (.sym 28),.pv (.sym 29),.pv (.sym 30),.pv (.sym 31),.pv (.sym 32),.pv (.sym 33),.pv (.sym 34)],.agg [.pv (.sym 39),.pv (.sym 40),.pv (.sym 41),.pv (.sym 42),.pv (.sym 43),.pv (.sym 44),.pv (.sym 45),.pv (.sym 46),.pv (.sym 47),.pv (.sym 48),.pv (.sym 49)]],[],.pv (.lit (.bool false)),[]⟩ 0 (.ret (.pv (.lit (.bool false))) [])))) (.say (.bin .eql 33 (.pv (.sym 50)) (.pv (.lit (.int .i64 0))) (.pv (.lit (.bool false)))) 0 (.ret (.pv (.lit (.bool false))) [])))))))))))))) (.say (.bin .eql 33 (.pv (.sym 8)) (.pv (.lit (.int .i64 0))) (.pv (.lit (.bool false)))) 0 (.call ⟨6,[.pv (.sym 0)],[],.tup [.agg [.pv (.sym 24),.pv (.sym 25),.pv (.sym 26),.pv (.sym 27),.pv (.sym 28),.pv (.sym 29),.pv (.sym 30),.pv (.sym 31),.pv (.sym 32),.pv (.sym 33),.pv (.sym 34)],.agg [.pv (.sym 35),.pv (.sym 36)]],[]⟩ 13 (.say (.bin .add 9 (.pv (.lit (.string ⟨#[32,40,10]⟩))) (.pv (.sym 0)) (.pv (.sym 37))) 1 (.say (.bin .add 9 (.pv (.sym 37)) (.pv (.lit (.string ⟨#[10,41,9]⟩))) (.pv (.sym 38))) 1 (.call ⟨6,[.pv (.sym 38)],[],.tup [.agg [.pv (.sym 39),.pv (.sym 40),.pv (.sym 41),.pv (.sym 42),.pv (.sym 43),.pv (.sym 44),.pv (.sym 45),.pv (.sym 46),.pv (.sym 47),.pv (.sym 48),.pv (.sym 49)],.agg [.pv (.sym 50),.pv (.sym 51)]],[]⟩ 13 (.alt (.say (.bin .neq 33 (.pv (.sym 35)) (.pv (.lit (.int .i64 0))) (.pv (.lit (.bool true)))) 0 (.ret (.pv (.lit (.bool true))) [])) (.say (.bin .neq 33 (.pv (.sym 35)) (.pv (.lit (.int .i64 0))) (.pv (.lit (.bool false)))) 0 (.alt (.say (.bin .eql 33 (.pv (.sym 50)) (.pv (.lit (.int .i64 111))) (.pv (.lit (.bool true)))) 0 (.ret (.pv (.lit (.bool true))) [])) (.say (.bin .eql 33 (.pv (.sym 50)) (.pv (.lit (.int .i64 111))) (.pv (.lit (.bool false)))) 0 (.alt (.say (.bin .eql 33 (.pv (.sym 50)) (.pv (.lit (.int .i64 0))) (.pv (.lit (.bool true)))) 0 (.alt (.call ⟨9,[.agg [.pv (.sym 24),.pv (.sym 25),.pv (.sym 26),.pv (.sym 27),.pv (.sym 28),.pv (.sym 29),.pv (.sym 30),.pv (.sym 31),.pv (.sym 32),.pv (.sym 33),.pv (.sym 34)],.agg [.pv (.sym 39),.pv (.sym 40),.pv (.sym 41),.pv (.sym 42),.pv (.sym 43),.pv (.sym 44),.pv (.sym 45),.pv (.sym 46),.pv (.sym 47),.pv (.sym 48),.pv (.sym 49)]],[],.pv (.lit (.bool true)),[]⟩ 0 (.ret (.pv (.lit (.bool true))) [])) (.call ⟨9,[.agg [.pv (.sym 24),.pv (.sym 25),.pv (.sym 26),.pv (.sym 27),.pv (.sym 28),.pv (.sym 29),.pv (.sym 30),.pv (.sym 31),.pv (.sym 32),.pv (.sym 33),.pv (.sym 34)],.agg [.pv (.sym 39),.pv (.sym 40),.pv (.sym 41),.pv (.sym 42),.pv (.sym 43),.pv (.sym 44),.pv (.sym 45),.pv (.sym 46),.pv (.sym 47),.pv (.sym 48),.pv (.sym 49)]],[],.pv (.lit (.bool false)),[]⟩ 0 (.ret (.pv (.lit (.bool false))) [])))) (.say (.bin .eql 33 (.pv (.sym 50)) (.pv (.lit (.int .i64 0))) (.pv (.lit (.bool false)))) 0 (.ret (.pv (.lit (.bool false))) []))))))))))))))))))))))))) (.call ⟨5,[],[],.pv (.lit (.bool false)),[]⟩ 0 (.ret (.pv (.lit (.bool false))) []))
def A4:List AV:=[.pv (.sym 0),.pv (.sym 1)]
def H4:List AObj:=[]
set_option maxRecDepth 100000 in
theorem c4:chk Tryd.prog (leafF Tryd.prog t4 4 A4 H4) T4 2 [] [] []=true:=by kernel_rfl
theorem F4(x0:PV)(x1:PV)(hn:NSL [x0,x1]){v:AV}{h':List AObj}(hd:Den Tryd.prog Tryd.f4 T4 [x0,x1] (.ret v h')) :
  Sem Tryd.prog 4 [.pv x0,.pv x1] [] v h':=
 fun_rule f4_at f4_body mixed f4_tab (args:=A4) (h:=H4) (by kernel_rfl) c4 rfl hn (by simp only[A4,TsAs,TsA,nm,isRow,List.getD_cons_zero,List.getD_cons_succ,and_self,and_true]) (by trivial) hd
end Go.Proofs.YtfphhabaeggenaaDoor
