import Derived.Test.YtkamjbmjjhbjcaaGreatDoorBc
import Derived.Test.YtkamjbmjjhbjcaaGreatDoorProg
import Derived.KernelRfl
set_option linter.unusedVariables false
set_option linter.unusedSimpArgs false
set_option linter.unusedSectionVars false
namespace Go.Proofs.YtkamjbmjjhbjcaaGreatDoor
open Go.RowKit
theorem mixed:Tryz.prog.follows .mixedOrders=true:=by kernel_rfl
def t4:FT where
 keep:=[]
 kb:=fun
  |_=>[]
 sd:=fun
  |_=>[]
def t12:FT where
 keep:=[]
 kb:=fun
  |0=>[3,1]
  |_=>[]
 sd:=fun
  |_=>[]
theorem f12_at:Tryz.prog.funcs[12]? = some Tryz.f12:=by kernel_rfl
def t13:FT where
 keep:=[]
 kb:=fun
  |0=>[4,1,3]
  |_=>[]
 sd:=fun
  |_=>[]
theorem f13_at:Tryz.prog.funcs[13]? = some Tryz.f13:=by kernel_rfl
def t14:FT where
 keep:=[]
 kb:=fun
  |0=>[3,1]
  |_=>[]
 sd:=fun
  |_=>[]
theorem f14_at:Tryz.prog.funcs[14]? = some Tryz.f14:=by kernel_rfl
def t15:FT where
 keep:=[]
 kb:=fun
  |0=>[4,1,3]
  |_=>[]
 sd:=fun
  |3=>[(0,true),(1,true),(2,true),(3,true),(6,true),(7,true),(8,true),(9,true),(4,false),(5,true),(10,false),(11,true),(12,true)]
  |4=>[(0,true),(1,true),(2,true),(3,true),(6,true),(7,true),(8,true),(9,true),(4,false),(5,true),(10,false),(11,true),(12,true)]
  |_=>[]
theorem f15_at:Tryz.prog.funcs[15]? = some Tryz.f15:=by kernel_rfl
def t16:FT where
 keep:=[]
 kb:=fun
  |1=>[28,27,26,3]
  |_=>[]
 sd:=fun
  |_=>[]
theorem f16_at:Tryz.prog.funcs[16]? = some Tryz.f16:=by kernel_rfl
def t17:FT where
 keep:=[]
 kb:=fun
  |_=>[]
 sd:=fun
  |_=>[]
theorem f17_at:Tryz.prog.funcs[17]? = some Tryz.f17:=by kernel_rfl
def t29:FT where
 keep:=[]
 kb:=fun
  |_=>[]
 sd:=fun
  |_=>[]
theorem f29_at:Tryz.prog.funcs[29]? = some Tryz.f29:=by kernel_rfl
def t32:FT where
 keep:=[]
 kb:=fun
  |_=>[]
 sd:=fun
  |_=>[]
theorem f32_at:Tryz.prog.funcs[32]? = some Tryz.f32:=by kernel_rfl
def t42:FT where
 keep:=[]
 kb:=fun
  |_=>[]
 sd:=fun
  |_=>[]
theorem f42_at:Tryz.prog.funcs[42]? = some Tryz.f42:=by kernel_rfl
def t44:FT where
 keep:=[]
 kb:=fun
  |0=>[37,36,35,4]
  |_=>[]
 sd:=fun
  |_=>[]
theorem f44_at:Tryz.prog.funcs[44]? = some Tryz.f44:=by kernel_rfl
def t88:FT where
 keep:=[]
 kb:=fun
  |_=>[]
 sd:=fun
  |_=>[]
theorem f88_at:Tryz.prog.funcs[88]? = some Tryz.f88:=by kernel_rfl
def t41:FT where
 keep:=[]
 kb:=fun
  |_=>[]
 sd:=fun
  |_=>[]
theorem f41_at:Tryz.prog.funcs[41]? = some Tryz.f41:=by kernel_rfl
def t84:FT where
 keep:=[]
 kb:=fun
  |_=>[]
 sd:=fun
  |_=>[]
theorem f84_at:Tryz.prog.funcs[84]? = some Tryz.f84:=by kernel_rfl
def t85:FT where
 keep:=[]
 kb:=fun
  |0=>[0,3]
  |_=>[]
 sd:=fun
  |_=>[]
theorem f85_at:Tryz.prog.funcs[85]? = some Tryz.f85:=by kernel_rfl
def t86:FT where
 keep:=[]
 kb:=fun
  |_=>[]
 sd:=fun
  |_=>[]
theorem f86_at:Tryz.prog.funcs[86]? = some Tryz.f86:=by kernel_rfl
def t127:FT where
 keep:=[]
 kb:=fun
  |_=>[]
 sd:=fun
  |_=>[]
theorem f127_at:Tryz.prog.funcs[127]? = some Tryz.f127:=by kernel_rfl
def t128:FT where
 keep:=[]
 kb:=fun
  |_=>[]
 sd:=fun
  |_=>[]
theorem f128_at:Tryz.prog.funcs[128]? = some Tryz.f128:=by kernel_rfl
def t74:FT where
 keep:=[]
 kb:=fun
  |0=>[9,8,7,1]
  |_=>[]
 sd:=fun
  |_=>[]
theorem f74_at:Tryz.prog.funcs[74]? = some Tryz.f74:=by kernel_rfl
def t75:FT where
 keep:=[]
 kb:=fun
  |0=>[9,8,7,1]
  |_=>[]
 sd:=fun
  |_=>[]
theorem f75_at:Tryz.prog.funcs[75]? = some Tryz.f75:=by kernel_rfl
def t9:FT where
 keep:=[]
 kb:=fun
  |_=>[]
 sd:=fun
  |1=>[(0,true),(2,true),(3,true),(4,true),(1,false),(5,true),(6,true),(7,true),(8,false),(9,true),(10,true),(11,true),(12,true),(13,true),(14,true),(15,true),(16,true),(17,true),(18,true),(19,true),(20,true),(21,true),(22,true),(23,true),(24,true),(25,true),(26,true),(27,true),(28,true),(29,true),(30,true)]
  |_=>[]
theorem f9_at:Tryz.prog.funcs[9]? = some Tryz.f9:=by kernel_rfl
def t27:FT where
 keep:=[]
 kb:=fun
  |_=>[]
 sd:=fun
  |_=>[]
theorem f27_at:Tryz.prog.funcs[27]? = some Tryz.f27:=by kernel_rfl
def t28:FT where
 keep:=[]
 kb:=fun
  |_=>[]
 sd:=fun
  |_=>[]
theorem f28_at:Tryz.prog.funcs[28]? = some Tryz.f28:=by kernel_rfl
def t30:FT where
 keep:=[]
 kb:=fun
  |_=>[]
 sd:=fun
  |_=>[]
theorem f30_at:Tryz.prog.funcs[30]? = some Tryz.f30:=by kernel_rfl
def t35:FT where
 keep:=[]
 kb:=fun
  |_=>[]
 sd:=fun
  |_=>[]
theorem f35_at:Tryz.prog.funcs[35]? = some Tryz.f35:=by kernel_rfl
def t71:FT where
 keep:=[]
 kb:=fun
  |_=>[]
 sd:=fun
  |_=>[]
theorem f71_at:Tryz.prog.funcs[71]? = some Tryz.f71:=by kernel_rfl
def t33:FT where
 keep:=[]
 kb:=fun
  |0=>[9,8,7,1]
  |_=>[]
 sd:=fun
  |_=>[]
theorem f33_at:Tryz.prog.funcs[33]? = some Tryz.f33:=by kernel_rfl
def t34:FT where
 keep:=[]
 kb:=fun
  |0=>[9,8,7,1]
  |_=>[]
 sd:=fun
  |_=>[]
theorem f34_at:Tryz.prog.funcs[34]? = some Tryz.f34:=by kernel_rfl
def t36:FT where
 keep:=[]
 kb:=fun
  |0=>[9,8,7,1]
  |_=>[]
 sd:=fun
  |_=>[]
theorem f36_at:Tryz.prog.funcs[36]? = some Tryz.f36:=by kernel_rfl
def t8:FT where
 keep:=[]
 kb:=fun
  |0=>[3,1]
  |2=>[4,1]
  |_=>[]
 sd:=fun
  |1=>[(0,true),(1,true),(2,true),(3,true),(4,true),(5,true),(6,true),(7,true),(8,true),(9,true),(10,true),(11,true),(12,true),(13,true),(14,true),(15,true),(16,true),(17,true),(18,true),(19,true),(20,false),(21,true),(22,true)]
  |_=>[]
theorem f8_at:Tryz.prog.funcs[8]? = some Tryz.f8:=by kernel_rfl
def t25:FT where
 keep:=[]
 kb:=fun
  |_=>[]
 sd:=fun
  |_=>[]
theorem f25_at:Tryz.prog.funcs[25]? = some Tryz.f25:=by kernel_rfl
def t26:FT where
 keep:=[]
 kb:=fun
  |0=>[3,0]
  |_=>[]
 sd:=fun
  |_=>[]
theorem f26_at:Tryz.prog.funcs[26]? = some Tryz.f26:=by kernel_rfl
def t68:FT where
 keep:=[]
 kb:=fun
  |0=>[3,0]
  |_=>[]
 sd:=fun
  |_=>[]
theorem f68_at:Tryz.prog.funcs[68]? = some Tryz.f68:=by kernel_rfl
def t69:FT where
 keep:=[]
 kb:=fun
  |_=>[]
 sd:=fun
  |_=>[]
theorem f69_at:Tryz.prog.funcs[69]? = some Tryz.f69:=by kernel_rfl
def t63:FT where
 keep:=[]
 kb:=fun
  |_=>[]
 sd:=fun
  |_=>[]
theorem f63_at:Tryz.prog.funcs[63]? = some Tryz.f63:=by kernel_rfl
def t107:FT where
 keep:=[]
 kb:=fun
  |0=>[9,6,0,1,7,8]
  |_=>[]
 sd:=fun
  |_=>[]
theorem f107_at:Tryz.prog.funcs[107]? = some Tryz.f107:=by kernel_rfl
def t37:FT where
 keep:=[]
 kb:=fun
  |_=>[]
 sd:=fun
  |_=>[]
theorem f37_at:Tryz.prog.funcs[37]? = some Tryz.f37:=by kernel_rfl
def t77:FT where
 keep:=[]
 kb:=fun
  |_=>[]
 sd:=fun
  |_=>[]
theorem f77_at:Tryz.prog.funcs[77]? = some Tryz.f77:=by kernel_rfl
def t118:FT where
 keep:=[]
 kb:=fun
  |_=>[]
 sd:=fun
  |_=>[]
theorem f118_at:Tryz.prog.funcs[118]? = some Tryz.f118:=by kernel_rfl
def t153:FT where
 keep:=[]
 kb:=fun
  |1=>[61,60,59,0,6,5,3,4]
  |_=>[]
 sd:=fun
  |3=>[(0,true),(1,true),(4,true),(5,true),(6,true),(7,true),(8,true),(2,false),(3,false),(9,false),(10,false),(11,false),(12,false)]
  |20=>[(0,true),(3,true),(4,true),(5,true),(6,true),(7,true),(1,false),(2,false),(8,false),(9,false),(10,false),(11,false)]
  |_=>[]
 sx:=fun
  |5=>some (.look 2 (.look 3 (.look 4 (.look 5 (.look 6 (.look 10 (.look 11 (.look 12 (.look 13 (.look 14 (.look 18 (.look 19 (.look 20 (.look 21 (.look 22 (.eff (.cons 0 (.eff (.cons 1 (.eff (.cons 7 (.eff (.cons 8 (.eff (.cons 9 (.eff (.cons 15 (.eff (.cons 16 (.eff (.cons 17 (.eff (.cons 23 (.eff (.cons 24 (.eff (.cons 25 (.eff (.cons 26 (.done) (.nil))) (.nil))) (.nil))) (.nil))) (.nil))) (.nil))) (.cons 16 (.eff (.cons 15 (.eff (.cons 17 (.eff (.cons 23 (.eff (.cons 24 (.eff (.cons 25 (.eff (.cons 26 (.done) (.nil))) (.nil))) (.nil))) (.nil))) (.nil))) (.nil))) (.nil)))) (.cons 16 (.eff (.cons 9 (.eff (.cons 15 (.eff (.cons 17 (.eff (.cons 23 (.eff (.cons 24 (.eff (.cons 25 (.eff (.cons 26 (.done) (.nil))) (.nil))) (.nil))) (.nil))) (.nil))) (.nil))) (.nil))) (.nil)))) (.cons 16 (.eff (.cons 8 (.eff (.cons 9 (.eff (.cons 15 (.eff (.cons 17 (.eff (.cons 23 (.eff (.cons 24 (.eff (.cons 25 (.eff (.cons 26 (.done) (.nil))) (.nil))) (.nil))) (.nil))) (.nil))) (.nil))) (.nil))) (.nil))) (.nil)))) (.cons 8 (.eff (.cons 7 (.eff (.cons 9 (.eff (.cons 15 (.eff (.cons 16 (.eff (.cons 17 (.eff (.cons 23 (.eff (.cons 24 (.eff (.cons 25 (.eff (.cons 26 (.done) (.nil))) (.nil))) (.nil))) (.nil))) (.nil))) (.nil))) (.cons 16 (.eff (.cons 15 (.eff (.cons 17 (.eff (.cons 23 (.eff (.cons 24 (.eff (.cons 25 (.eff (.cons 26 (.done) (.nil))) (.nil))) (.nil))) (.nil))) (.nil))) (.nil))) (.nil)))) (.cons 16 (.eff (.cons 9 (.eff (.cons 15 (.eff (.cons 17 (.eff (.cons 23 (.eff (.cons 24 (.eff (.cons 25 (.eff (.cons 26 (.done) (.nil))) (.nil))) (.nil))) (.nil))) (.nil))) (.nil))) (.nil))) (.nil)))) (.cons 16 (.eff (.cons 7 (.eff (.cons 9 (.eff (.cons 15 (.eff (.cons 17 (.eff (.cons 23 (.eff (.cons 24 (.eff (.cons 25 (.eff (.cons 26 (.done) (.nil))) (.nil))) (.nil))) (.nil))) (.nil))) (.nil))) (.nil))) (.nil))) (.nil)))) (.cons 16 (.eff (.cons 7 (.eff (.cons 8 (.eff (.cons 9 (.eff (.cons 15 (.eff (.cons 17 (.eff (.cons 23 (.eff (.cons 24 (.eff (.cons 25 (.eff (.cons 26 (.done) (.nil))) (.nil))) (.nil))) (.nil))) (.nil))) (.nil))) (.nil))) (.nil))) (.cons 8 (.eff (.cons 7 (.eff (.cons 9 (.eff (.cons 15 (.eff (.cons 17 (.eff (.cons 23 (.eff (.cons 24 (.eff (.cons 25 (.eff (.cons 26 (.done) (.nil))) (.nil))) (.nil))) (.nil))) (.nil))) (.nil))) (.nil))) (.nil))) (.nil)))) (.nil))))) (.cons 8 (.eff (.cons 1 (.eff (.cons 7 (.eff (.cons 9 (.eff (.cons 15 (.eff (.cons 16 (.eff (.cons 17 (.eff (.cons 23 (.eff (.cons 24 (.eff (.cons 25 (.eff (.cons 26 (.done) (.nil))) (.nil))) (.nil))) (.nil))) (.nil))) (.nil))) (.cons 16 (.eff (.cons 15 (.eff (.cons 17 (.eff (.cons 23 (.eff (.cons 24 (.eff (.cons 25 (.eff (.cons 26 (.done) (.nil))) (.nil))) (.nil))) (.nil))) (.nil))) (.nil))) (.nil)))) (.cons 16 (.eff (.cons 9 (.eff (.cons 15 (.eff (.cons 17 (.eff (.cons 23 (.eff (.cons 24 (.eff (.cons 25 (.eff (.cons 26 (.done) (.nil))) (.nil))) (.nil))) (.nil))) (.nil))) (.nil))) (.nil))) (.nil)))) (.cons 16 (.eff (.cons 7 (.eff (.cons 9 (.eff (.cons 15 (.eff (.cons 17 (.eff (.cons 23 (.eff (.cons 24 (.eff (.cons 25 (.eff (.cons 26 (.done) (.nil))) (.nil))) (.nil))) (.nil))) (.nil))) (.nil))) (.nil))) (.nil))) (.nil)))) (.cons 16 (.eff (.cons 1 (.eff (.cons 7 (.eff (.cons 9 (.eff (.cons 15 (.eff (.cons 17 (.eff (.cons 23 (.eff (.cons 24 (.eff (.cons 25 (.eff (.cons 26 (.done) (.nil))) (.nil))) (.nil))) (.nil))) (.nil))) (.nil))) (.nil))) (.nil))) (.nil))) (.nil)))) (.cons 16 (.eff (.cons 1 (.eff (.cons 7 (.eff (.cons 8 (.eff (.cons 9 (.eff (.cons 15 (.eff (.cons 17 (.eff (.cons 23 (.eff (.cons 24 (.eff (.cons 25 (.eff (.cons 26 (.done) (.nil))) (.nil))) (.nil))) (.nil))) (.nil))) (.nil))) (.nil))) (.nil))) (.cons 8 (.eff (.cons 7 (.eff (.cons 9 (.eff (.cons 15 (.eff (.cons 17 (.eff (.cons 23 (.eff (.cons 24 (.eff (.cons 25 (.eff (.cons 26 (.done) (.nil))) (.nil))) (.nil))) (.nil))) (.nil))) (.nil))) (.nil))) (.nil))) (.nil)))) (.cons 8 (.eff (.cons 1 (.eff (.cons 7 (.eff (.cons 9 (.eff (.cons 15 (.eff (.cons 17 (.eff (.cons 23 (.eff (.cons 24 (.eff (.cons 25 (.eff (.cons 26 (.done) (.nil))) (.nil))) (.nil))) (.nil))) (.nil))) (.nil))) (.nil))) (.nil))) (.nil))) (.nil)))) (.nil))))) (.cons 8 (.eff (.cons 0 (.eff (.cons 1 (.eff (.cons 7 (.eff (.cons 9 (.eff (.cons 15 (.eff (.cons 16 (.eff (.cons 17 (.eff (.cons 23 (.eff (.cons 24 (.eff (.cons 25 (.eff (.cons 26 (.done) (.nil))) (.nil))) (.nil))) (.nil))) (.nil))) (.nil))) (.cons 16 (.eff (.cons 15 (.eff (.cons 17 (.eff (.cons 23 (.eff (.cons 24 (.eff (.cons 25 (.eff (.cons 26 (.done) (.nil))) (.nil))) (.nil))) (.nil))) (.nil))) (.nil))) (.nil)))) (.cons 16 (.eff (.cons 9 (.eff (.cons 15 (.eff (.cons 17 (.eff (.cons 23 (.eff (.cons 24 (.eff (.cons 25 (.eff (.cons 26 (.done) (.nil))) (.nil))) (.nil))) (.nil))) (.nil))) (.nil))) (.nil))) (.nil)))) (.cons 16 (.eff (.cons 7 (.eff (.cons 9 (.eff (.cons 15 (.eff (.cons 17 (.eff (.cons 23 (.eff (.cons 24 (.eff (.cons 25 (.eff (.cons 26 (.done) (.nil))) (.nil))) (.nil))) (.nil))) (.nil))) (.nil))) (.nil))) (.nil))) (.nil)))) (.cons 16 (.eff (.cons 1 (.eff (.cons 7 (.eff (.cons 9 (.eff (.cons 15 (.eff (.cons 17 (.eff (.cons 23 (.eff (.cons 24 (.eff (.cons 25 (.eff (.cons 26 (.done) (.nil))) (.nil))) (.nil))) (.nil))) (.nil))) (.nil))) (.nil))) (.nil))) (.nil))) (.nil)))) (.cons 16 (.eff (.cons 0 (.eff (.cons 1 (.eff (.cons 7 (.eff (.cons 9 (.eff (.cons 15 (.eff (.cons 17 (.eff (.cons 23 (.eff (.cons 24 (.eff (.cons 25 (.eff (.cons 26 (.done) (.nil))) (.nil))) (.nil))) (.nil))) (.nil))) (.nil))) (.nil))) (.nil))) (.nil))) (.nil))) (.nil)))) (.cons 16 (.eff (.cons 0 (.eff (.cons 1 (.eff (.cons 7 (.eff (.cons 8 (.eff (.cons 9 (.eff (.cons 15 (.eff (.cons 17 (.eff (.cons 23 (.eff (.cons 24 (.eff (.cons 25 (.eff (.cons 26 (.done) (.nil))) (.nil))) (.nil))) (.nil))) (.nil))) (.nil))) (.nil))) (.nil))) (.cons 8 (.eff (.cons 7 (.eff (.cons 9 (.eff (.cons 15 (.eff (.cons 17 (.eff (.cons 23 (.eff (.cons 24 (.eff (.cons 25 (.eff (.cons 26 (.done) (.nil))) (.nil))) (.nil))) (.nil))) (.nil))) (.nil))) (.nil))) (.nil))) (.nil)))) (.cons 8 (.eff (.cons 1 (.eff (.cons 7 (.eff (.cons 9 (.eff (.cons 15 (.eff (.cons 17 (.eff (.cons 23 (.eff (.cons 24 (.eff (.cons 25 (.eff (.cons 26 (.done) (.nil))) (.nil))) (.nil))) (.nil))) (.nil))) (.nil))) (.nil))) (.nil))) (.nil))) (.nil)))) (.cons 8 (.eff (.cons 0 (.eff (.cons 1 (.eff (.cons 7 (.eff (.cons 9 (.eff (.cons 15 (.eff (.cons 17 (.eff (.cons 23 (.eff (.cons 24 (.eff (.cons 25 (.eff (.cons 26 (.done) (.nil))) (.nil))) (.nil))) (.nil))) (.nil))) (.nil))) (.nil))) (.nil))) (.nil))) (.nil))) (.nil)))) (.nil))))))))))))))))))),[4])
  |15=>some (.look 0 (.look 1 (.look 2 (.look 6 (.look 7 (.look 8 (.eff (.cons 3 (.eff (.cons 4 (.eff (.cons 5 (.eff (.cons 9 (.eff (.cons 10 (.eff (.cons 11 (.eff (.cons 12 (.eff (.cons 13 (.done) (.nil))) (.nil))) (.cons 12 (.eff (.cons 11 (.eff (.cons 13 (.done) (.nil))) (.nil))) (.nil)))) (.cons 12 (.eff (.cons 10 (.eff (.cons 11 (.eff (.cons 13 (.done) (.nil))) (.nil))) (.nil))) (.nil)))) (.cons 12 (.eff (.cons 9 (.eff (.cons 10 (.eff (.cons 11 (.eff (.cons 13 (.done) (.nil))) (.nil))) (.nil))) (.nil))) (.nil)))) (.cons 12 (.eff (.cons 5 (.eff (.cons 9 (.eff (.cons 10 (.eff (.cons 11 (.eff (.cons 13 (.done) (.nil))) (.nil))) (.nil))) (.nil))) (.nil))) (.nil)))) (.cons 12 (.eff (.cons 4 (.eff (.cons 5 (.eff (.cons 9 (.eff (.cons 10 (.eff (.cons 11 (.eff (.cons 13 (.done) (.nil))) (.nil))) (.nil))) (.nil))) (.nil))) (.nil))) (.nil)))) (.cons 12 (.eff (.cons 3 (.eff (.cons 4 (.eff (.cons 5 (.eff (.cons 9 (.eff (.cons 10 (.eff (.cons 11 (.eff (.cons 13 (.done) (.nil))) (.nil))) (.nil))) (.nil))) (.nil))) (.nil))) (.nil))) (.nil))))))))),[7,6,9,61,60,59,0,5,3,4])
  |_=>none
theorem f153_at:Tryz.prog.funcs[153]? = some Tryz.f153:=by kernel_rfl
def t116:FT where
 keep:=[]
 kb:=fun
  |_=>[]
 sd:=fun
  |_=>[]
 sx:=fun
  |3=>some (.look 0 (.look 1 (.look 2 (.look 4 (.look 7 (.look 8 (.look 9 (.look 10 (.eff (.cons 3 (.eff (.cons 5 (.eff (.cons 6 (.eff (.cons 11 (.eff (.cons 12 (.eff (.cons 13 (.eff (.cons 14 (.done) (.nil))) (.nil))) (.nil))) (.nil))) (.nil))) (.nil))) (.cons 5 (.eff (.cons 3 (.eff (.cons 6 (.eff (.cons 11 (.eff (.cons 12 (.eff (.cons 13 (.eff (.cons 14 (.done) (.nil))) (.nil))) (.nil))) (.nil))) (.nil))) (.nil))) (.nil))))))))))),[6])
  |_=>none
theorem f116_at:Tryz.prog.funcs[116]? = some Tryz.f116:=by kernel_rfl
def t150:FT where
 keep:=[]
 kb:=fun
  |_=>[]
 sd:=fun
  |7=>[(0,true),(1,true),(2,true),(3,true),(4,true),(5,false),(6,false)]
  |_=>[]
theorem f150_at:Tryz.prog.funcs[150]? = some Tryz.f150:=by kernel_rfl
def t119:FT where
 keep:=[]
 kb:=fun
  |_=>[]
 sd:=fun
  |3=>[(0,true),(1,true),(3,true),(4,true),(5,true),(6,true),(7,true),(2,false),(8,false),(9,false),(10,false),(11,false)]
  |4=>[(0,true),(1,true),(3,true),(4,true),(5,true),(6,true),(7,true),(2,false),(8,false),(9,false),(10,false),(11,false)]
  |_=>[]
theorem f119_at:Tryz.prog.funcs[119]? = some Tryz.f119:=by kernel_rfl
def t151:FT where
 keep:=[]
 kb:=fun
  |1=>[41,40,39,5,0,4]
  |_=>[]
 sd:=fun
  |12=>[(0,true),(1,false),(2,false),(3,false),(4,false),(5,false)]
  |15=>[(0,true),(1,false),(2,false),(3,false),(4,false),(5,false)]
  |_=>[]
 sx:=fun
  |7=>some (.look 2 (.look 3 (.look 4 (.look 5 (.look 6 (.eff (.cons 0 (.eff (.cons 1 (.eff (.cons 7 (.eff (.cons 8 (.eff (.cons 9 (.eff (.cons 10 (.eff (.cons 11 (.eff (.cons 12 (.eff (.cons 13 (.done) (.nil))) (.nil))) (.cons 12 (.eff (.cons 11 (.eff (.cons 13 (.done) (.nil))) (.nil))) (.nil)))) (.cons 12 (.eff (.cons 10 (.eff (.cons 11 (.eff (.cons 13 (.done) (.nil))) (.nil))) (.nil))) (.nil)))) (.cons 12 (.eff (.cons 9 (.eff (.cons 10 (.eff (.cons 11 (.eff (.cons 13 (.done) (.nil))) (.nil))) (.nil))) (.nil))) (.nil)))) (.cons 12 (.eff (.cons 8 (.eff (.cons 9 (.eff (.cons 10 (.eff (.cons 11 (.eff (.cons 13 (.done) (.nil))) (.nil))) (.nil))) (.nil))) (.nil))) (.nil)))) (.cons 8 (.eff (.cons 7 (.eff (.cons 9 (.eff (.cons 10 (.eff (.cons 11 (.eff (.cons 12 (.eff (.cons 13 (.done) (.nil))) (.nil))) (.cons 12 (.eff (.cons 11 (.eff (.cons 13 (.done) (.nil))) (.nil))) (.nil)))) (.cons 12 (.eff (.cons 10 (.eff (.cons 11 (.eff (.cons 13 (.done) (.nil))) (.nil))) (.nil))) (.nil)))) (.cons 12 (.eff (.cons 9 (.eff (.cons 10 (.eff (.cons 11 (.eff (.cons 13 (.done) (.nil))) (.nil))) (.nil))) (.nil))) (.nil)))) (.cons 12 (.eff (.cons 7 (.eff (.cons 9 (.eff (.cons 10 (.eff (.cons 11 (.eff (.cons 13 (.done) (.nil))) (.nil))) (.nil))) (.nil))) (.nil))) (.nil)))) (.cons 12 (.eff (.cons 7 (.eff (.cons 8 (.eff (.cons 9 (.eff (.cons 10 (.eff (.cons 11 (.eff (.cons 13 (.done) (.nil))) (.nil))) (.nil))) (.nil))) (.nil))) (.cons 8 (.eff (.cons 7 (.eff (.cons 9 (.eff (.cons 10 (.eff (.cons 11 (.eff (.cons 13 (.done) (.nil))) (.nil))) (.nil))) (.nil))) (.nil))) (.nil)))) (.nil))))) (.cons 8 (.eff (.cons 1 (.eff (.cons 7 (.eff (.cons 9 (.eff (.cons 10 (.eff (.cons 11 (.eff (.cons 12 (.eff (.cons 13 (.done) (.nil))) (.nil))) (.cons 12 (.eff (.cons 11 (.eff (.cons 13 (.done) (.nil))) (.nil))) (.nil)))) (.cons 12 (.eff (.cons 10 (.eff (.cons 11 (.eff (.cons 13 (.done) (.nil))) (.nil))) (.nil))) (.nil)))) (.cons 12 (.eff (.cons 9 (.eff (.cons 10 (.eff (.cons 11 (.eff (.cons 13 (.done) (.nil))) (.nil))) (.nil))) (.nil))) (.nil)))) (.cons 12 (.eff (.cons 7 (.eff (.cons 9 (.eff (.cons 10 (.eff (.cons 11 (.eff (.cons 13 (.done) (.nil))) (.nil))) (.nil))) (.nil))) (.nil))) (.nil)))) (.cons 12 (.eff (.cons 1 (.eff (.cons 7 (.eff (.cons 9 (.eff (.cons 10 (.eff (.cons 11 (.eff (.cons 13 (.done) (.nil))) (.nil))) (.nil))) (.nil))) (.nil))) (.nil))) (.nil)))) (.cons 12 (.eff (.cons 1 (.eff (.cons 7 (.eff (.cons 8 (.eff (.cons 9 (.eff (.cons 10 (.eff (.cons 11 (.eff (.cons 13 (.done) (.nil))) (.nil))) (.nil))) (.nil))) (.nil))) (.cons 8 (.eff (.cons 7 (.eff (.cons 9 (.eff (.cons 10 (.eff (.cons 11 (.eff (.cons 13 (.done) (.nil))) (.nil))) (.nil))) (.nil))) (.nil))) (.nil)))) (.cons 8 (.eff (.cons 1 (.eff (.cons 7 (.eff (.cons 9 (.eff (.cons 10 (.eff (.cons 11 (.eff (.cons 13 (.done) (.nil))) (.nil))) (.nil))) (.nil))) (.nil))) (.nil))) (.nil)))) (.nil))))) (.cons 8 (.eff (.cons 0 (.eff (.cons 1 (.eff (.cons 7 (.eff (.cons 9 (.eff (.cons 10 (.eff (.cons 11 (.eff (.cons 12 (.eff (.cons 13 (.done) (.nil))) (.nil))) (.cons 12 (.eff (.cons 11 (.eff (.cons 13 (.done) (.nil))) (.nil))) (.nil)))) (.cons 12 (.eff (.cons 10 (.eff (.cons 11 (.eff (.cons 13 (.done) (.nil))) (.nil))) (.nil))) (.nil)))) (.cons 12 (.eff (.cons 9 (.eff (.cons 10 (.eff (.cons 11 (.eff (.cons 13 (.done) (.nil))) (.nil))) (.nil))) (.nil))) (.nil)))) (.cons 12 (.eff (.cons 7 (.eff (.cons 9 (.eff (.cons 10 (.eff (.cons 11 (.eff (.cons 13 (.done) (.nil))) (.nil))) (.nil))) (.nil))) (.nil))) (.nil)))) (.cons 12 (.eff (.cons 1 (.eff (.cons 7 (.eff (.cons 9 (.eff (.cons 10 (.eff (.cons 11 (.eff (.cons 13 (.done) (.nil))) (.nil))) (.nil))) (.nil))) (.nil))) (.nil))) (.nil)))) (.cons 12 (.eff (.cons 0 (.eff (.cons 1 (.eff (.cons 7 (.eff (.cons 9 (.eff (.cons 10 (.eff (.cons 11 (.eff (.cons 13 (.done) (.nil))) (.nil))) (.nil))) (.nil))) (.nil))) (.nil))) (.nil))) (.nil)))) (.cons 12 (.eff (.cons 0 (.eff (.cons 1 (.eff (.cons 7 (.eff (.cons 8 (.eff (.cons 9 (.eff (.cons 10 (.eff (.cons 11 (.eff (.cons 13 (.done) (.nil))) (.nil))) (.nil))) (.nil))) (.nil))) (.cons 8 (.eff (.cons 7 (.eff (.cons 9 (.eff (.cons 10 (.eff (.cons 11 (.eff (.cons 13 (.done) (.nil))) (.nil))) (.nil))) (.nil))) (.nil))) (.nil)))) (.cons 8 (.eff (.cons 1 (.eff (.cons 7 (.eff (.cons 9 (.eff (.cons 10 (.eff (.cons 11 (.eff (.cons 13 (.done) (.nil))) (.nil))) (.nil))) (.nil))) (.nil))) (.nil))) (.nil)))) (.cons 8 (.eff (.cons 0 (.eff (.cons 1 (.eff (.cons 7 (.eff (.cons 9 (.eff (.cons 10 (.eff (.cons 11 (.eff (.cons 13 (.done) (.nil))) (.nil))) (.nil))) (.nil))) (.nil))) (.nil))) (.nil))) (.nil)))) (.nil))))))))),[3,5,0,4])
  |13=>some (.look 0 (.look 1 (.look 2 (.look 4 (.look 5 (.look 10 (.look 11 (.look 12 (.eff (.cons 3 (.eff (.cons 6 (.look 7 (.eff (.cons 8 (.eff (.cons 9 (.eff (.cons 13 (.eff (.cons 14 (.eff (.cons 15 (.eff (.cons 16 (.done) (.nil))) (.nil))) (.nil))) (.nil))) (.nil))) (.nil)))) (.cons 8 (.eff (.cons 6 (.look 7 (.eff (.cons 9 (.eff (.cons 13 (.eff (.cons 14 (.eff (.cons 15 (.eff (.cons 16 (.done) (.nil))) (.nil))) (.nil))) (.nil))) (.nil)))) (.nil))) (.nil)))) (.cons 8 (.eff (.cons 3 (.eff (.cons 6 (.look 7 (.eff (.cons 9 (.eff (.cons 13 (.eff (.cons 14 (.eff (.cons 15 (.eff (.cons 16 (.done) (.nil))) (.nil))) (.nil))) (.nil))) (.nil)))) (.nil))) (.nil))) (.nil))))))))))),[41,40,39,5,0,4])
  |17=>some (.look 2 (.look 3 (.look 4 (.look 5 (.look 6 (.look 10 (.look 11 (.look 13 (.look 14 (.eff (.cons 0 (.eff (.cons 1 (.eff (.cons 7 (.eff (.cons 8 (.eff (.cons 9 (.eff (.cons 12 (.eff (.cons 15 (.look 16 (.eff (.cons 17 (.eff (.cons 18 (.eff (.cons 19 (.eff (.cons 20 (.eff (.cons 21 (.done) (.nil))) (.nil))) (.nil))) (.nil))) (.nil)))) (.cons 17 (.eff (.cons 15 (.look 16 (.eff (.cons 18 (.eff (.cons 19 (.eff (.cons 20 (.eff (.cons 21 (.done) (.nil))) (.nil))) (.nil))) (.nil)))) (.nil))) (.nil)))) (.cons 17 (.eff (.cons 12 (.eff (.cons 15 (.look 16 (.eff (.cons 18 (.eff (.cons 19 (.eff (.cons 20 (.eff (.cons 21 (.done) (.nil))) (.nil))) (.nil))) (.nil)))) (.nil))) (.nil))) (.nil)))) (.cons 17 (.eff (.cons 9 (.eff (.cons 12 (.eff (.cons 15 (.look 16 (.eff (.cons 18 (.eff (.cons 19 (.eff (.cons 20 (.eff (.cons 21 (.done) (.nil))) (.nil))) (.nil))) (.nil)))) (.nil))) (.nil))) (.nil))) (.nil)))) (.cons 17 (.eff (.cons 8 (.eff (.cons 9 (.eff (.cons 12 (.eff (.cons 15 (.look 16 (.eff (.cons 18 (.eff (.cons 19 (.eff (.cons 20 (.eff (.cons 21 (.done) (.nil))) (.nil))) (.nil))) (.nil)))) (.nil))) (.nil))) (.nil))) (.nil))) (.nil)))) (.cons 8 (.eff (.cons 7 (.eff (.cons 9 (.eff (.cons 12 (.eff (.cons 15 (.look 16 (.eff (.cons 17 (.eff (.cons 18 (.eff (.cons 19 (.eff (.cons 20 (.eff (.cons 21 (.done) (.nil))) (.nil))) (.nil))) (.nil))) (.nil)))) (.cons 17 (.eff (.cons 15 (.look 16 (.eff (.cons 18 (.eff (.cons 19 (.eff (.cons 20 (.eff (.cons 21 (.done) (.nil))) (.nil))) (.nil))) (.nil)))) (.nil))) (.nil)))) (.cons 17 (.eff (.cons 12 (.eff (.cons 15 (.look 16 (.eff (.cons 18 (.eff (.cons 19 (.eff (.cons 20 (.eff (.cons 21 (.done) (.nil))) (.nil))) (.nil))) (.nil)))) (.nil))) (.nil))) (.nil)))) (.cons 17 (.eff (.cons 9 (.eff (.cons 12 (.eff (.cons 15 (.look 16 (.eff (.cons 18 (.eff (.cons 19 (.eff (.cons 20 (.eff (.cons 21 (.done) (.nil))) (.nil))) (.nil))) (.nil)))) (.nil))) (.nil))) (.nil))) (.nil)))) (.cons 17 (.eff (.cons 7 (.eff (.cons 9 (.eff (.cons 12 (.eff (.cons 15 (.look 16 (.eff (.cons 18 (.eff (.cons 19 (.eff (.cons 20 (.eff (.cons 21 (.done) (.nil))) (.nil))) (.nil))) (.nil)))) (.nil))) (.nil))) (.nil))) (.nil))) (.nil)))) (.cons 17 (.eff (.cons 7 (.eff (.cons 8 (.eff (.cons 9 (.eff (.cons 12 (.eff (.cons 15 (.look 16 (.eff (.cons 18 (.eff (.cons 19 (.eff (.cons 20 (.eff (.cons 21 (.done) (.nil))) (.nil))) (.nil))) (.nil)))) (.nil))) (.nil))) (.nil))) (.nil))) (.cons 8 (.eff (.cons 7 (.eff (.cons 9 (.eff (.cons 12 (.eff (.cons 15 (.look 16 (.eff (.cons 18 (.eff (.cons 19 (.eff (.cons 20 (.eff (.cons 21 (.done) (.nil))) (.nil))) (.nil))) (.nil)))) (.nil))) (.nil))) (.nil))) (.nil))) (.nil)))) (.nil))))) (.cons 8 (.eff (.cons 1 (.eff (.cons 7 (.eff (.cons 9 (.eff (.cons 12 (.eff (.cons 15 (.look 16 (.eff (.cons 17 (.eff (.cons 18 (.eff (.cons 19 (.eff (.cons 20 (.eff (.cons 21 (.done) (.nil))) (.nil))) (.nil))) (.nil))) (.nil)))) (.cons 17 (.eff (.cons 15 (.look 16 (.eff (.cons 18 (.eff (.cons 19 (.eff (.cons 20 (.eff (.cons 21 (.done) (.nil))) (.nil))) (.nil))) (.nil)))) (.nil))) (.nil)))) (.cons 17 (.eff (.cons 12 (.eff (.cons 15 (.look 16 (.eff (.cons 18 (.eff (.cons 19 (.eff (.cons 20 (.eff (.cons 21 (.done) (.nil))) (.nil))) (.nil))) (.nil)))) (.nil))) (.nil))) (.nil)))) (.cons 17 (.eff (.cons 9 (.eff (.cons 12 (.eff (.cons 15 (.look 16 (.eff (.cons 18 (.eff (.cons 19 (.eff (.cons 20 (.eff (.cons 21 (.done) (.nil))) (.nil))) (.nil))) (.nil)))) (.nil))) (.nil))) (.nil))) (.nil)))) (.cons 17 (.eff (.cons 7 (.eff (.cons 9 (.eff (.cons 12 (.eff (.cons 15 (.look 16 (.eff (.cons 18 (.eff (.cons 19 (.eff (.cons 20 (.eff (.cons 21 (.done) (.nil))) (.nil))) (.nil))) (.nil)))) (.nil))) (.nil))) (.nil))) (.nil))) (.nil)))) (.cons 17 (.eff (.cons 1 (.eff (.cons 7 (.eff (.cons 9 (.eff (.cons 12 (.eff (.cons 15 (.look 16 (.eff (.cons 18 (.eff (.cons 19 (.eff (.cons 20 (.eff (.cons 21 (.done) (.nil))) (.nil))) (.nil))) (.nil)))) (.nil))) (.nil))) (.nil))) (.nil))) (.nil))) (.nil)))) (.cons 17 (.eff (.cons 1 (.eff (.cons 7 (.eff (.cons 8 (.eff (.cons 9 (.eff (.cons 12 (.eff (.cons 15 (.look 16 (.eff (.cons 18 (.eff (.cons 19 (.eff (.cons 20 (.eff (.cons 21 (.done) (.nil))) (.nil))) (.nil))) (.nil)))) (.nil))) (.nil))) (.nil))) (.nil))) (.cons 8 (.eff (.cons 7 (.eff (.cons 9 (.eff (.cons 12 (.eff (.cons 15 (.look 16 (.eff (.cons 18 (.eff (.cons 19 (.eff (.cons 20 (.eff (.cons 21 (.done) (.nil))) (.nil))) (.nil))) (.nil)))) (.nil))) (.nil))) (.nil))) (.nil))) (.nil)))) (.cons 8 (.eff (.cons 1 (.eff (.cons 7 (.eff (.cons 9 (.eff (.cons 12 (.eff (.cons 15 (.look 16 (.eff (.cons 18 (.eff (.cons 19 (.eff (.cons 20 (.eff (.cons 21 (.done) (.nil))) (.nil))) (.nil))) (.nil)))) (.nil))) (.nil))) (.nil))) (.nil))) (.nil))) (.nil)))) (.nil))))) (.cons 8 (.eff (.cons 0 (.eff (.cons 1 (.eff (.cons 7 (.eff (.cons 9 (.eff (.cons 12 (.eff (.cons 15 (.look 16 (.eff (.cons 17 (.eff (.cons 18 (.eff (.cons 19 (.eff (.cons 20 (.eff (.cons 21 (.done) (.nil))) (.nil))) (.nil))) (.nil))) (.nil)))) (.cons 17 (.eff (.cons 15 (.look 16 (.eff (.cons 18 (.eff (.cons 19 (.eff (.cons 20 (.eff (.cons 21 (.done) (.nil))) (.nil))) (.nil))) (.nil)))) (.nil))) (.nil)))) (.cons 17 (.eff (.cons 12 (.eff (.cons 15 (.look 16 (.eff (.cons 18 (.eff (.cons 19 (.eff (.cons 20 (.eff (.cons 21 (.done) (.nil))) (.nil))) (.nil))) (.nil)))) (.nil))) (.nil))) (.nil)))) (.cons 17 (.eff (.cons 9 (.eff (.cons 12 (.eff (.cons 15 (.look 16 (.eff (.cons 18 (.eff (.cons 19 (.eff (.cons 20 (.eff (.cons 21 (.done) (.nil))) (.nil))) (.nil))) (.nil)))) (.nil))) (.nil))) (.nil))) (.nil)))) (.cons 17 (.eff (.cons 7 (.eff (.cons 9 (.eff (.cons 12 (.eff (.cons 15 (.look 16 (.eff (.cons 18 (.eff (.cons 19 (.eff (.cons 20 (.eff (.cons 21 (.done) (.nil))) (.nil))) (.nil))) (.nil)))) (.nil))) (.nil))) (.nil))) (.nil))) (.nil)))) (.cons 17 (.eff (.cons 1 (.eff (.cons 7 (.eff (.cons 9 (.eff (.cons 12 (.eff (.cons 15 (.look 16 (.eff (.cons 18 (.eff (.cons 19 (.eff (.cons 20 (.eff (.cons 21 (.done) (.nil))) (.nil))) (.nil))) (.nil)))) (.nil))) (.nil))) (.nil))) (.nil))) (.nil))) (.nil)))) (.cons 17 (.eff (.cons 0 (.eff (.cons 1 (.eff (.cons 7 (.eff (.cons 9 (.eff (.cons 12 (.eff (.cons 15 (.look 16 (.eff (.cons 18 (.eff (.cons 19 (.eff (.cons 20 (.eff (.cons 21 (.done) (.nil))) (.nil))) (.nil))) (.nil)))) (.nil))) (.nil))) (.nil))) (.nil))) (.nil))) (.nil))) (.nil)))) (.cons 17 (.eff (.cons 0 (.eff (.cons 1 (.eff (.cons 7 (.eff (.cons 8 (.eff (.cons 9 (.eff (.cons 12 (.eff (.cons 15 (.look 16 (.eff (.cons 18 (.eff (.cons 19 (.eff (.cons 20 (.eff (.cons 21 (.done) (.nil))) (.nil))) (.nil))) (.nil)))) (.nil))) (.nil))) (.nil))) (.nil))) (.cons 8 (.eff (.cons 7 (.eff (.cons 9 (.eff (.cons 12 (.eff (.cons 15 (.look 16 (.eff (.cons 18 (.eff (.cons 19 (.eff (.cons 20 (.eff (.cons 21 (.done) (.nil))) (.nil))) (.nil))) (.nil)))) (.nil))) (.nil))) (.nil))) (.nil))) (.nil)))) (.cons 8 (.eff (.cons 1 (.eff (.cons 7 (.eff (.cons 9 (.eff (.cons 12 (.eff (.cons 15 (.look 16 (.eff (.cons 18 (.eff (.cons 19 (.eff (.cons 20 (.eff (.cons 21 (.done) (.nil))) (.nil))) (.nil))) (.nil)))) (.nil))) (.nil))) (.nil))) (.nil))) (.nil))) (.nil)))) (.cons 8 (.eff (.cons 0 (.eff (.cons 1 (.eff (.cons 7 (.eff (.cons 9 (.eff (.cons 12 (.eff (.cons 15 (.look 16 (.eff (.cons 18 (.eff (.cons 19 (.eff (.cons 20 (.eff (.cons 21 (.done) (.nil))) (.nil))) (.nil))) (.nil)))) (.nil))) (.nil))) (.nil))) (.nil))) (.nil))) (.nil))) (.nil)))) (.nil))))))))))))),[4])
  |_=>none
theorem f151_at:Tryz.prog.funcs[151]? = some Tryz.f151:=by kernel_rfl
def t76:FT where
 keep:=[]
 kb:=fun
  |_=>[]
 sd:=fun
  |_=>[]
theorem f76_at:Tryz.prog.funcs[76]? = some Tryz.f76:=by kernel_rfl
def t154:FT where
 keep:=[]
 kb:=fun
  |_=>[]
 sd:=fun
  |_=>[]
theorem f154_at:Tryz.prog.funcs[154]? = some Tryz.f154:=by kernel_rfl
def t78:FT where
 keep:=[]
 kb:=fun
  |_=>[]
 sd:=fun
  |_=>[]
theorem f78_at:Tryz.prog.funcs[78]? = some Tryz.f78:=by kernel_rfl
def t11:FT where
 keep:=[]
 kb:=fun
  |_=>[]
 sd:=fun
  |_=>[]
theorem f11_at:Tryz.prog.funcs[11]? = some Tryz.f11:=by kernel_rfl
def t38:FT where
 keep:=[]
 kb:=fun
  |_=>[]
 sd:=fun
  |2=>[(0,true),(1,true),(2,true),(3,true),(4,true),(5,true),(6,true),(7,true),(8,true)]
  |_=>[]
theorem f38_at:Tryz.prog.funcs[38]? = some Tryz.f38:=by kernel_rfl
def t79:FT where
 keep:=[]
 kb:=fun
  |1=>[7,4,0]
  |_=>[]
 sd:=fun
  |_=>[]
theorem f79_at:Tryz.prog.funcs[79]? = some Tryz.f79:=by kernel_rfl
def t121:FT where
 keep:=[]
 kb:=fun
  |_=>[]
 sd:=fun
  |_=>[]
theorem f121_at:Tryz.prog.funcs[121]? = some Tryz.f121:=by kernel_rfl
def t122:FT where
 keep:=[]
 kb:=fun
  |_=>[]
 sd:=fun
  |_=>[]
theorem f122_at:Tryz.prog.funcs[122]? = some Tryz.f122:=by kernel_rfl
def t123:FT where
 keep:=[]
 kb:=fun
  |_=>[]
 sd:=fun
  |_=>[]
theorem f123_at:Tryz.prog.funcs[123]? = some Tryz.f123:=by kernel_rfl
def t124:FT where
 keep:=[]
 kb:=fun
  |1=>[4,3,0]
  |_=>[]
 sd:=fun
  |_=>[]
theorem f124_at:Tryz.prog.funcs[124]? = some Tryz.f124:=by kernel_rfl
def t156:FT where
 keep:=[]
 kb:=fun
  |_=>[]
 sd:=fun
  |_=>[]
theorem f156_at:Tryz.prog.funcs[156]? = some Tryz.f156:=by kernel_rfl
def t158:FT where
 keep:=[]
 kb:=fun
  |_=>[]
 sd:=fun
  |_=>[]
theorem f158_at:Tryz.prog.funcs[158]? = some Tryz.f158:=by kernel_rfl
def t160:FT where
 keep:=[]
 kb:=fun
  |_=>[]
 sd:=fun
  |0=>[(0,true),(1,true),(2,true),(3,true),(4,true),(5,true),(6,true),(7,true),(8,true),(9,true),(10,true)]
  |_=>[]
theorem f160_at:Tryz.prog.funcs[160]? = some Tryz.f160:=by kernel_rfl
def t147:FT where
 keep:=[]
 kb:=fun
  |0=>[9,8,7,4,3,2]
  |_=>[]
 sd:=fun
  |_=>[]
theorem f147_at:Tryz.prog.funcs[147]? = some Tryz.f147:=by kernel_rfl
def t148:FT where
 keep:=[]
 kb:=fun
  |_=>[]
 sd:=fun
  |_=>[]
theorem f148_at:Tryz.prog.funcs[148]? = some Tryz.f148:=by kernel_rfl
def t117:FT where
 keep:=[]
 kb:=fun
  |_=>[]
 sd:=fun
  |_=>[]
theorem f117_at:Tryz.prog.funcs[117]? = some Tryz.f117:=by kernel_rfl
def t115:FT where
 keep:=[]
 kb:=fun
  |_=>[]
 sd:=fun
  |_=>[]
 sx:=fun
  |1=>some (.look 2 (.eff (.cons 0 (.eff (.cons 1 (.eff (.cons 3 (.eff (.cons 4 (.eff (.cons 5 (.eff (.cons 6 (.eff (.cons 7 (.eff (.cons 8 (.done) (.nil))) (.nil))) (.nil))) (.nil))) (.nil))) (.cons 4 (.eff (.cons 3 (.eff (.cons 5 (.eff (.cons 6 (.eff (.cons 7 (.eff (.cons 8 (.done) (.nil))) (.nil))) (.nil))) (.nil))) (.nil))) (.nil)))) (.cons 4 (.eff (.cons 1 (.eff (.cons 3 (.eff (.cons 5 (.eff (.cons 6 (.eff (.cons 7 (.eff (.cons 8 (.done) (.nil))) (.nil))) (.nil))) (.nil))) (.nil))) (.nil))) (.nil)))) (.cons 4 (.eff (.cons 0 (.eff (.cons 1 (.eff (.cons 3 (.eff (.cons 5 (.eff (.cons 6 (.eff (.cons 7 (.eff (.cons 8 (.done) (.nil))) (.nil))) (.nil))) (.nil))) (.nil))) (.nil))) (.nil))) (.nil)))),[2])
  |_=>none
theorem f115_at:Tryz.prog.funcs[115]? = some Tryz.f115:=by kernel_rfl
def t149:FT where
 keep:=[]
 kb:=fun
  |_=>[]
 sd:=fun
  |2=>[(0,true),(1,true),(2,true),(3,true),(4,true),(5,true),(6,true),(7,true),(8,true),(9,false),(10,false),(11,true)]
  |4=>[(0,true),(1,true),(2,true),(3,true),(4,true),(5,true),(6,true),(7,true),(8,true),(9,false),(10,false),(11,true)]
  |6=>[(0,true),(1,true),(2,true),(3,false),(4,false),(5,true)]
  |9=>[(0,true),(1,true),(2,true),(3,false),(4,false),(5,true)]
  |10=>[(0,true),(1,true),(2,true),(3,true),(4,true),(5,true),(6,true),(7,true),(8,true),(9,true),(10,true),(11,true),(12,true),(13,false),(14,false),(15,true)]
  |_=>[]
theorem f149_at:Tryz.prog.funcs[149]? = some Tryz.f149:=by kernel_rfl
def t152:FT where
 keep:=[]
 kb:=fun
  |_=>[]
 sd:=fun
  |_=>[]
theorem f152_at:Tryz.prog.funcs[152]? = some Tryz.f152:=by kernel_rfl
def t98:FT where
 keep:=[]
 kb:=fun
  |_=>[]
 sd:=fun
  |_=>[]
theorem f98_at:Tryz.prog.funcs[98]? = some Tryz.f98:=by kernel_rfl
def t188:FT where
 keep:=[]
 kb:=fun
  |_=>[]
 sd:=fun
  |_=>[]
theorem f188_at:Tryz.prog.funcs[188]? = some Tryz.f188:=by kernel_rfl
def t178:FT where
 keep:=[]
 kb:=fun
  |0=>[9,8,7,3]
  |_=>[]
 sd:=fun
  |5=>[(0,true),(1,true),(3,true),(4,true),(5,true),(6,true),(2,false),(7,false),(8,true),(9,true)]
  |_=>[]
theorem f178_at:Tryz.prog.funcs[178]? = some Tryz.f178:=by kernel_rfl
def t179:FT where
 keep:=[]
 kb:=fun
  |0=>[10,9,8,1,3]
  |_=>[]
 sd:=fun
  |_=>[]
theorem f179_at:Tryz.prog.funcs[179]? = some Tryz.f179:=by kernel_rfl
def t176:FT where
 keep:=[]
 kb:=fun
  |_=>[]
 sd:=fun
  |_=>[]
theorem f176_at:Tryz.prog.funcs[176]? = some Tryz.f176:=by kernel_rfl
def t187:FT where
 keep:=[]
 kb:=fun
  |_=>[]
 sd:=fun
  |_=>[]
theorem f187_at:Tryz.prog.funcs[187]? = some Tryz.f187:=by kernel_rfl
def t10:FT where
 keep:=[]
 kb:=fun
  |_=>[]
 sd:=fun
  |_=>[]
theorem f10_at:Tryz.prog.funcs[10]? = some Tryz.f10:=by kernel_rfl
def t120:FT where
 keep:=[]
 kb:=fun
  |_=>[]
 sd:=fun
  |_=>[]
theorem f120_at:Tryz.prog.funcs[120]? = some Tryz.f120:=by kernel_rfl
def t155:FT where
 keep:=[]
 kb:=fun
  |_=>[]
 sd:=fun
  |_=>[]
theorem f155_at:Tryz.prog.funcs[155]? = some Tryz.f155:=by kernel_rfl
def t157:FT where
 keep:=[]
 kb:=fun
  |_=>[]
 sd:=fun
  |_=>[]
theorem f157_at:Tryz.prog.funcs[157]? = some Tryz.f157:=by kernel_rfl
def t143:FT where
 keep:=[]
 kb:=fun
  |_=>[]
 sd:=fun
  |_=>[]
theorem f143_at:Tryz.prog.funcs[143]? = some Tryz.f143:=by kernel_rfl
def t159:FT where
 keep:=[]
 kb:=fun
  |0=>[4,0,3]
  |_=>[]
 sd:=fun
  |_=>[]
theorem f159_at:Tryz.prog.funcs[159]? = some Tryz.f159:=by kernel_rfl
def t161:FT where
 keep:=[]
 kb:=fun
  |0=>[4,1,3]
  |_=>[]
 sd:=fun
  |_=>[]
theorem f161_at:Tryz.prog.funcs[161]? = some Tryz.f161:=by kernel_rfl
def t162:FT where
 keep:=[]
 kb:=fun
  |0=>[4,1,3]
  |_=>[]
 sd:=fun
  |_=>[]
theorem f162_at:Tryz.prog.funcs[162]? = some Tryz.f162:=by kernel_rfl
def t7:FT where
 keep:=[]
 kb:=fun
  |_=>[]
 sd:=fun
  |_=>[]
theorem f7_at:Tryz.prog.funcs[7]? = some Tryz.f7:=by kernel_rfl
def t24:FT where
 keep:=[]
 kb:=fun
  |0=>[6,2,5,1]
  |2=>[7,2,5,1]
  |4=>[8,2,5,1]
  |_=>[]
 sd:=fun
  |13=>[(0,true),(1,true),(2,true),(3,true),(4,true),(5,true),(6,true),(7,true),(8,true),(9,true),(12,true),(13,true),(14,true),(15,true),(16,true),(17,true),(18,true),(19,true),(10,false),(11,true),(20,true),(21,true),(22,true)]
  |_=>[]
theorem f24_at:Tryz.prog.funcs[24]? = some Tryz.f24:=by kernel_rfl
def t142:FT where
 keep:=[]
 kb:=fun
  |0=>[4,3,0]
  |2=>[5,3,4,0]
  |_=>[]
 sd:=fun
  |_=>[]
theorem f142_at:Tryz.prog.funcs[142]? = some Tryz.f142:=by kernel_rfl
def t177:FT where
 keep:=[]
 kb:=fun
  |0=>[9,8,0,3]
  |_=>[]
 sd:=fun
  |_=>[]
theorem f177_at:Tryz.prog.funcs[177]? = some Tryz.f177:=by kernel_rfl
def t31:FT where
 keep:=[]
 kb:=fun
  |_=>[]
 sd:=fun
  |_=>[]
theorem f31_at:Tryz.prog.funcs[31]? = some Tryz.f31:=by kernel_rfl
def t20:FT where
 keep:=[]
 kb:=fun
  |_=>[]
 sd:=fun
  |_=>[]
theorem f20_at:Tryz.prog.funcs[20]? = some Tryz.f20:=by kernel_rfl
def t49:FT where
 keep:=[]
 kb:=fun
  |_=>[]
 sd:=fun
  |_=>[]
theorem f49_at:Tryz.prog.funcs[49]? = some Tryz.f49:=by kernel_rfl
def t51:FT where
 keep:=[]
 kb:=fun
  |_=>[]
 sd:=fun
  |_=>[]
theorem f51_at:Tryz.prog.funcs[51]? = some Tryz.f51:=by kernel_rfl
def t53:FT where
 keep:=[]
 kb:=fun
  |_=>[]
 sd:=fun
  |_=>[]
theorem f53_at:Tryz.prog.funcs[53]? = some Tryz.f53:=by kernel_rfl
def t90:FT where
 keep:=[]
 kb:=fun
  |_=>[]
 sd:=fun
  |_=>[]
theorem f90_at:Tryz.prog.funcs[90]? = some Tryz.f90:=by kernel_rfl
def t93:FT where
 keep:=[]
 kb:=fun
  |_=>[]
 sd:=fun
  |_=>[]
theorem f93_at:Tryz.prog.funcs[93]? = some Tryz.f93:=by kernel_rfl
def t95:FT where
 keep:=[]
 kb:=fun
  |_=>[]
 sd:=fun
  |_=>[]
theorem f95_at:Tryz.prog.funcs[95]? = some Tryz.f95:=by kernel_rfl
def t21:FT where
 keep:=[]
 kb:=fun
  |_=>[]
 sd:=fun
  |3=>[(0,true),(1,true),(3,true),(4,true),(7,true),(8,true),(11,true),(12,true),(2,false),(5,false),(6,true),(9,false),(10,true),(13,false),(14,true),(15,true)]
  |_=>[]
theorem f21_at:Tryz.prog.funcs[21]? = some Tryz.f21:=by kernel_rfl
def t55:FT where
 keep:=[]
 kb:=fun
  |0=>[18,17,16,3,1]
  |2=>[36,35,34,3,18,17,16,1]
  |_=>[]
 sd:=fun
  |5=>[(0,true),(2,true),(3,true),(6,true),(7,true),(1,false),(4,true),(5,true),(8,true),(9,true),(10,true)]
  |_=>[]
theorem f55_at:Tryz.prog.funcs[55]? = some Tryz.f55:=by kernel_rfl
def t57:FT where
 keep:=[]
 kb:=fun
  |0=>[30,29,28,3,1]
  |2=>[50,49,48,3]
  |_=>[]
 sd:=fun
  |8=>[(0,true),(1,true),(2,true),(6,true),(7,true),(3,false),(4,true),(5,true),(8,false),(9,true),(10,true),(11,true),(12,true)]
  |_=>[]
theorem f57_at:Tryz.prog.funcs[57]? = some Tryz.f57:=by kernel_rfl
def t59:FT where
 keep:=[]
 kb:=fun
  |0=>[19,18,17,3,1]
  |2=>[45,44,43,3]
  |_=>[]
 sd:=fun
  |1=>[(0,true),(1,true),(2,true),(3,true),(4,true),(5,true),(6,false),(7,true),(8,true)]
  |5=>[(0,true),(2,true),(3,true),(6,true),(7,true),(10,true),(11,true),(12,true),(1,false),(4,true),(5,true),(8,true),(9,true),(13,true),(14,true),(15,true)]
  |_=>[]
theorem f59_at:Tryz.prog.funcs[59]? = some Tryz.f59:=by kernel_rfl
def t61:FT where
 keep:=[]
 kb:=fun
  |_=>[]
 sd:=fun
  |1=>[(0,true),(1,true),(5,true),(6,true),(2,false),(3,true),(4,true),(7,false),(8,true),(9,true),(10,true)]
  |_=>[]
theorem f61_at:Tryz.prog.funcs[61]? = some Tryz.f61:=by kernel_rfl
def t48:FT where
 keep:=[]
 kb:=fun
  |0=>[9,8,7,1]
  |_=>[]
 sd:=fun
  |_=>[]
theorem f48_at:Tryz.prog.funcs[48]? = some Tryz.f48:=by kernel_rfl
def t50:FT where
 keep:=[]
 kb:=fun
  |0=>[9,8,7,1]
  |_=>[]
 sd:=fun
  |_=>[]
theorem f50_at:Tryz.prog.funcs[50]? = some Tryz.f50:=by kernel_rfl
def t52:FT where
 keep:=[]
 kb:=fun
  |0=>[9,8,7,1]
  |_=>[]
 sd:=fun
  |_=>[]
theorem f52_at:Tryz.prog.funcs[52]? = some Tryz.f52:=by kernel_rfl
def t91:FT where
 keep:=[]
 kb:=fun
  |0=>[9,8,7,1]
  |_=>[]
 sd:=fun
  |_=>[]
theorem f91_at:Tryz.prog.funcs[91]? = some Tryz.f91:=by kernel_rfl
def t92:FT where
 keep:=[]
 kb:=fun
  |0=>[9,8,7,1]
  |_=>[]
 sd:=fun
  |_=>[]
theorem f92_at:Tryz.prog.funcs[92]? = some Tryz.f92:=by kernel_rfl
def t94:FT where
 keep:=[]
 kb:=fun
  |0=>[9,8,7,1]
  |_=>[]
 sd:=fun
  |_=>[]
theorem f94_at:Tryz.prog.funcs[94]? = some Tryz.f94:=by kernel_rfl
def t96:FT where
 keep:=[]
 kb:=fun
  |0=>[9,8,7,1]
  |_=>[]
 sd:=fun
  |_=>[]
theorem f96_at:Tryz.prog.funcs[96]? = some Tryz.f96:=by kernel_rfl
def t54:FT where
 keep:=[]
 kb:=fun
  |0=>[10,9,8,5,1]
  |_=>[]
 sd:=fun
  |_=>[]
theorem f54_at:Tryz.prog.funcs[54]? = some Tryz.f54:=by kernel_rfl
def t56:FT where
 keep:=[]
 kb:=fun
  |0=>[10,9,8,5,1]
  |_=>[]
 sd:=fun
  |_=>[]
theorem f56_at:Tryz.prog.funcs[56]? = some Tryz.f56:=by kernel_rfl
def t58:FT where
 keep:=[]
 kb:=fun
  |0=>[10,9,8,5,1]
  |_=>[]
 sd:=fun
  |_=>[]
theorem f58_at:Tryz.prog.funcs[58]? = some Tryz.f58:=by kernel_rfl
def t60:FT where
 keep:=[]
 kb:=fun
  |0=>[10,9,8,5,1]
  |_=>[]
 sd:=fun
  |_=>[]
theorem f60_at:Tryz.prog.funcs[60]? = some Tryz.f60:=by kernel_rfl
def t5:FT where
 keep:=[]
 kb:=fun
  |_=>[]
 sd:=fun
  |7=>[(0,true),(1,false),(2,true),(3,true),(5,true),(4,false),(6,false),(7,true),(8,true),(9,true)]
  |_=>[]
theorem f5_at:Tryz.prog.funcs[5]? = some Tryz.f5:=by kernel_rfl
theorem f5_body:Tryz.f5.body.isSome=true:=by kernel_rfl
theorem f5_tab:tabOk t5.sd t5.sx (bodyOf Tryz.f5)=true:=by kernel_rfl
def t18:FT where
 keep:=[]
 kb:=fun
  |0=>[40,39,38,1]
  |2=>[63,62,61,40,39,38,1]
  |4=>[76,75,74,1]
  |6=>[100,99,98,76,75,74,1]
  |8=>[113,112,111,1]
  |10=>[137,136,135]
  |_=>[]
 sd:=fun
  |_=>[]
theorem f18_at:Tryz.prog.funcs[18]? = some Tryz.f18:=by kernel_rfl
def t19:FT where
 keep:=[]
 kb:=fun
  |0=>[3,1]
  |2=>[4,1]
  |4=>[5,1]
  |_=>[]
 sd:=fun
  |_=>[]
theorem f19_at:Tryz.prog.funcs[19]? = some Tryz.f19:=by kernel_rfl
def t45:FT where
 keep:=[]
 kb:=fun
  |0=>[3,1]
  |2=>[4,1]
  |4=>[5,1,4]
  |_=>[]
 sd:=fun
  |_=>[]
theorem f45_at:Tryz.prog.funcs[45]? = some Tryz.f45:=by kernel_rfl
def t46:FT where
 keep:=[]
 kb:=fun
  |0=>[3,1]
  |_=>[]
 sd:=fun
  |_=>[]
theorem f46_at:Tryz.prog.funcs[46]? = some Tryz.f46:=by kernel_rfl
def t47:FT where
 keep:=[]
 kb:=fun
  |0=>[3,1]
  |_=>[]
 sd:=fun
  |_=>[]
theorem f47_at:Tryz.prog.funcs[47]? = some Tryz.f47:=by kernel_rfl
def t89:FT where
 keep:=[]
 kb:=fun
  |0=>[3,0]
  |_=>[]
 sd:=fun
  |_=>[]
theorem f89_at:Tryz.prog.funcs[89]? = some Tryz.f89:=by kernel_rfl
def t64:FT where
 keep:=[]
 kb:=fun
  |_=>[]
 sd:=fun
  |1=>[(0,true),(1,true),(5,true),(6,true),(2,false),(3,true),(4,true),(7,false),(8,true),(9,true),(10,true)]
  |_=>[]
theorem f64_at:Tryz.prog.funcs[64]? = some Tryz.f64:=by kernel_rfl
def t62:FT where
 keep:=[]
 kb:=fun
  |0=>[8,0,7,1,2]
  |_=>[]
 sd:=fun
  |_=>[]
theorem f62_at:Tryz.prog.funcs[62]? = some Tryz.f62:=by kernel_rfl
def t22:FT where
 keep:=[]
 kb:=fun
  |0=>[4,1,3]
  |2=>[7,5,6,3,4,1]
  |4=>[9,5,7,8,6,3,4,1]
  |6=>[10,1,3]
  |8=>[12,11,3,10,1]
  |10=>[13,11,3,10,1]
  |12=>[14,1,3]
  |14=>[17,15,16,3,14,1]
  |16=>[18,15,3,14,1]
  |18=>[19,1,3]
  |_=>[]
 sd:=fun
  |16=>[(0,true),(1,true),(2,true),(3,true),(4,true),(5,true),(6,true),(9,true),(7,false),(8,true),(10,false),(11,true),(12,true)]
  |24=>[(0,true),(1,true),(2,true),(3,true),(4,true),(5,true),(6,true),(7,true),(8,true),(9,true),(10,true),(11,false),(12,true),(13,true),(14,true)]
  |28=>[(0,true),(1,true),(2,true),(3,true),(4,true),(5,true),(6,true),(10,true),(11,true),(12,true),(13,true),(14,true),(15,true),(7,false),(8,true),(9,true),(16,false),(17,true),(18,true),(19,true)]
  |42=>[(0,true),(1,true),(2,true),(3,true),(4,true),(5,true),(6,true),(7,true),(8,true),(9,true),(10,true),(11,true),(12,true),(13,true),(14,true),(15,true),(16,false),(17,false),(18,true)]
  |43=>[(0,true),(1,true),(2,true),(3,true),(4,true),(5,true),(6,true),(7,true),(10,true),(8,false),(9,true),(11,false),(12,true),(13,true),(14,true)]
  |_=>[]
theorem f22_at:Tryz.prog.funcs[22]? = some Tryz.f22:=by kernel_rfl
end Go.Proofs.YtkamjbmjjhbjcaaGreatDoor
