/- Joined. -/
import Derived.Test.YtjpjcjnacnlhdaaGreatBc
import Derived.Test.YtjpjcjnacnlhdaaGreatProg
import Derived.KernelRfl
set_option linter.unusedSimpArgs false
set_option linter.unusedVariables false
namespace Go.Proofs.YtjpjcjnacnlhdaaGreat.X
open Go.RowKit
theorem mixed:Tryz.prog.follows .mixedOrders=true:=by kernel_rfl
def t124:FT where
 keep:=[]
 kb:=fun
  |0=>[9,6,0,1,7,8]
  |_=>[]
 sd:=fun
  |_=>[]
theorem f124_at:Tryz.prog.funcs[124]?=some Tryz.f124:=by kernel_rfl
def t125:FT where
 keep:=[]
 kb:=fun
  |_=>[]
 sd:=fun
  |_=>[]
theorem f125_at:Tryz.prog.funcs[125]?=some Tryz.f125:=by kernel_rfl
def t127:FT where
 keep:=[]
 kb:=fun
  |_=>[]
 sd:=fun
  |_=>[]
theorem f127_at:Tryz.prog.funcs[127]?=some Tryz.f127:=by kernel_rfl
def t130:FT where
 keep:=[]
 kb:=fun
  |_=>[]
 sd:=fun
  |_=>[]
theorem f130_at:Tryz.prog.funcs[130]?=some Tryz.f130:=by kernel_rfl
def t131:FT where
 keep:=[]
 kb:=fun
  |_=>[]
 sd:=fun
  |_=>[]
theorem f131_at:Tryz.prog.funcs[131]?=some Tryz.f131:=by kernel_rfl
def t132:FT where
 keep:=[]
 kb:=fun
  |_=>[]
 sd:=fun
  |_=>[]
theorem f132_at:Tryz.prog.funcs[132]?=some Tryz.f132:=by kernel_rfl
def t133:FT where
 keep:=[]
 kb:=fun
  |_=>[]
 sd:=fun
  |_=>[]
theorem f133_at:Tryz.prog.funcs[133]?=some Tryz.f133:=by kernel_rfl
def t134:FT where
 keep:=[]
 kb:=fun
  |_=>[]
 sd:=fun
  |_=>[]
theorem f134_at:Tryz.prog.funcs[134]?=some Tryz.f134:=by kernel_rfl
def t147:FT where
 keep:=[]
 kb:=fun
  |0=>[5,0,1]
  |_=>[]
 sd:=fun
  |_=>[]
theorem f147_at:Tryz.prog.funcs[147]?=some Tryz.f147:=by kernel_rfl
def t148:FT where
 keep:=[]
 kb:=fun
  |_=>[]
 sd:=fun
  |_=>[]
theorem f148_at:Tryz.prog.funcs[148]?=some Tryz.f148:=by kernel_rfl
def t150:FT where
 keep:=[]
 kb:=fun
  |0=>[5,1,0]
  |_=>[]
 sd:=fun
  |_=>[]
theorem f150_at:Tryz.prog.funcs[150]?=some Tryz.f150:=by kernel_rfl
def t126:FT where
 keep:=[]
 kb:=fun
  |0=>[8,0,7]
  |_=>[]
 sd:=fun
  |_=>[]
theorem f126_at:Tryz.prog.funcs[126]?=some Tryz.f126:=by kernel_rfl
def t128:FT where
 keep:=[]
 kb:=fun
  |0=>[1,0,2]
  |_=>[]
 sd:=fun
  |_=>[]
theorem f128_at:Tryz.prog.funcs[128]?=some Tryz.f128:=by kernel_rfl
def t98:FT where
 keep:=[]
 kb:=fun
  |0=>[3,0]
  |_=>[]
 sd:=fun
  |_=>[]
theorem f98_at:Tryz.prog.funcs[98]?=some Tryz.f98:=by kernel_rfl
def t99:FT where
 keep:=[]
 kb:=fun
  |0=>[1,0]
  |2=>[1,0]
  |_=>[]
 sd:=fun
  |_=>[]
theorem f99_at:Tryz.prog.funcs[99]?=some Tryz.f99:=by kernel_rfl
def t129:FT where
 keep:=[]
 kb:=fun
  |0=>[6,0,5,4]
  |2=>[8,0,7,4]
  |_=>[]
 sd:=fun
  |_=>[]
theorem f129_at:Tryz.prog.funcs[129]?=some Tryz.f129:=by kernel_rfl
def t149:FT where
 keep:=[]
 kb:=fun
  |_=>[]
 sd:=fun
  |_=>[]
theorem f149_at:Tryz.prog.funcs[149]?=some Tryz.f149:=by kernel_rfl
def t152:FT where
 keep:=[]
 kb:=fun
  |_=>[]
 sd:=fun
  |_=>[]
theorem f152_at:Tryz.prog.funcs[152]?=some Tryz.f152:=by kernel_rfl
def t153:FT where
 keep:=[]
 kb:=fun
  |_=>[]
 sd:=fun
  |_=>[]
theorem f153_at:Tryz.prog.funcs[153]?=some Tryz.f153:=by kernel_rfl
def t155:FT where
 keep:=[]
 kb:=fun
  |_=>[]
 sd:=fun
  |_=>[]
theorem f155_at:Tryz.prog.funcs[155]?=some Tryz.f155:=by kernel_rfl
def t156:FT where
 keep:=[]
 kb:=fun
  |_=>[]
 sd:=fun
  |_=>[]
theorem f156_at:Tryz.prog.funcs[156]?=some Tryz.f156:=by kernel_rfl
def t65:FT where
 keep:=[]
 kb:=fun
  |0=>[7,0,6]
  |_=>[]
 sd:=fun
  |_=>[]
theorem f65_at:Tryz.prog.funcs[65]?=some Tryz.f65:=by kernel_rfl
def t100:FT where
 keep:=[]
 kb:=fun
  |0=>[13,12,0,8,4]
  |_=>[]
 sd:=fun
  |_=>[]
theorem f100_at:Tryz.prog.funcs[100]?=some Tryz.f100:=by kernel_rfl
def t104:FT where
 keep:=[]
 kb:=fun
  |0=>[10,3,1,9,0,2,8]
  |_=>[]
 sd:=fun
  |_=>[]
theorem f104_at:Tryz.prog.funcs[104]?=some Tryz.f104:=by kernel_rfl
def t103:FT where
 keep:=[]
 kb:=fun
  |0=>[3,0]
  |2=>[4,0,3]
  |_=>[]
 sd:=fun
  |_=>[]
theorem f103_at:Tryz.prog.funcs[103]?=some Tryz.f103:=by kernel_rfl
def t137:FT where
 keep:=[]
 kb:=fun
  |0=>[4,3,0]
  |2=>[5,3,4,0]
  |_=>[]
 sd:=fun
  |_=>[]
theorem f137_at:Tryz.prog.funcs[137]?=some Tryz.f137:=by kernel_rfl
def t138:FT where
 keep:=[]
 kb:=fun
  |_=>[]
 sd:=fun
  |_=>[]
theorem f138_at:Tryz.prog.funcs[138]?=some Tryz.f138:=by kernel_rfl
def t28:FT where
 keep:=[]
 kb:=fun
  |_=>[]
 sd:=fun
  |_=>[]
theorem f28_at:Tryz.prog.funcs[28]?=some Tryz.f28:=by kernel_rfl
def t7:FT where
 keep:=[]
 kb:=fun
  |0=>[5,6,2]
  |_=>[]
 sd:=fun
  |5=>[(0,true),(1,true),(2,true),(3,false),(4,false),(5,false),(6,true),(7,false)]
  |7=>[(0,true),(1,true),(2,true),(3,false),(4,false),(5,false),(6,true),(7,false)]
  |9=>[(0,true),(1,true),(2,true),(3,false),(4,false),(5,false),(6,true),(7,false)]
  |11=>[(0,true),(1,true),(2,true),(3,false),(4,false),(5,false),(6,true),(7,false)]
  |14=>[(0,true),(1,true),(2,true),(3,true),(4,true),(5,true),(6,true),(7,true),(8,true),(9,false),(10,true),(11,true)]
  |_=>[]
theorem f7_at:Tryz.prog.funcs[7]?=some Tryz.f7:=by kernel_rfl
def t66:FT where
 keep:=[]
 kb:=fun
  |_=>[]
 sd:=fun
  |_=>[]
theorem f66_at:Tryz.prog.funcs[66]?=some Tryz.f66:=by kernel_rfl
def t29:FT where
 keep:=[]
 kb:=fun
  |_=>[]
 sd:=fun
  |1=>[(0,true),(1,true),(2,true),(3,true),(4,true),(5,true),(6,true),(7,true),(8,true),(9,true),(10,true),(11,true),(12,true),(13,true),(14,true),(15,true),(16,true)]
  |3=>[(0,true),(1,true),(2,true),(3,true),(4,true),(5,true),(6,true),(7,true),(8,true),(9,true),(10,false)]
  |_=>[]
theorem f29_at:Tryz.prog.funcs[29]?=some Tryz.f29:=by kernel_rfl
def t30:FT where
 keep:=[]
 kb:=fun
  |_=>[]
 sd:=fun
  |_=>[]
theorem f30_at:Tryz.prog.funcs[30]?=some Tryz.f30:=by kernel_rfl
def t31:FT where
 keep:=[]
 kb:=fun
  |0=>[0,4,2]
  |2=>[5,0,4,2]
  |4=>[0,7,4,2]
  |_=>[]
 sd:=fun
  |4=>[(0,true),(1,true),(2,true),(3,false),(4,true),(5,false),(6,false),(7,true),(8,false)]
  |11=>[(0,true),(1,true),(2,true),(3,false),(4,false),(5,false),(6,true),(7,false)]
  |_=>[]
theorem f31_at:Tryz.prog.funcs[31]?=some Tryz.f31:=by kernel_rfl
def t34:FT where
 keep:=[]
 kb:=fun
  |_=>[]
 sd:=fun
  |_=>[]
theorem f34_at:Tryz.prog.funcs[34]?=some Tryz.f34:=by kernel_rfl
def t32:FT where
 keep:=[]
 kb:=fun
  |0=>[0,4,2]
  |_=>[]
 sd:=fun
  |8=>[(0,true),(1,true),(2,true),(3,false),(4,false),(5,false),(6,true),(7,false)]
  |11=>[(0,true),(1,true),(2,true),(3,true),(4,true),(6,true),(7,true),(5,false),(8,true),(9,false),(10,false),(11,true),(12,false)]
  |_=>[]
 sx:=fun
  |2=>some (.look 0 (.look 1 (.look 2 (.look 5 (.look 6 (.eff (.cons 3 (.look 4 (.look 7 (.eff (.cons 8 (.eff (.cons 9 (.done) (.nil))) (.nil))))) (.cons 8 (.eff (.cons 3 (.look 4 (.look 7 (.eff (.cons 9 (.done) (.nil))))) (.nil))) (.nil)))))))),[0,4,2])
  |_=>none
theorem f32_at:Tryz.prog.funcs[32]?=some Tryz.f32:=by kernel_rfl
def t33:FT where
 keep:=[]
 kb:=fun
  |0=>[5,0,4,2]
  |2=>[0,4,2]
  |_=>[]
 sd:=fun
  |13=>[(0,true),(1,true),(2,true),(3,false),(4,false),(5,false),(6,true),(7,false)]
  |_=>[]
 sx:=fun
  |2=>some (.look 0 (.look 1 (.look 2 (.look 4 (.look 5 (.eff (.cons 3 (.look 6 (.eff (.cons 7 (.eff (.cons 8 (.done) (.nil))) (.nil)))) (.cons 7 (.eff (.cons 3 (.look 6 (.eff (.cons 8 (.done) (.nil)))) (.nil))) (.nil)))))))),[0,4,2])
  |_=>none
theorem f33_at:Tryz.prog.funcs[33]?=some Tryz.f33:=by kernel_rfl
def t35:FT where
 keep:=[]
 kb:=fun
  |_=>[]
 sd:=fun
  |3=>[(0,true),(1,true),(2,true),(4,true),(5,true),(3,false),(6,true),(7,false)]
  |_=>[]
theorem f35_at:Tryz.prog.funcs[35]?=some Tryz.f35:=by kernel_rfl
def t67:FT where
 keep:=[]
 kb:=fun
  |_=>[]
 sd:=fun
  |_=>[]
theorem f67_at:Tryz.prog.funcs[67]?=some Tryz.f67:=by kernel_rfl
def t70:FT where
 keep:=[]
 kb:=fun
  |0=>[0,3]
  |_=>[]
 sd:=fun
  |_=>[]
theorem f70_at:Tryz.prog.funcs[70]?=some Tryz.f70:=by kernel_rfl
def t68:FT where
 keep:=[]
 kb:=fun
  |_=>[]
 sd:=fun
  |_=>[]
theorem f68_at:Tryz.prog.funcs[68]?=some Tryz.f68:=by kernel_rfl
def t69:FT where
 keep:=[]
 kb:=fun
  |_=>[]
 sd:=fun
  |_=>[]
theorem f69_at:Tryz.prog.funcs[69]?=some Tryz.f69:=by kernel_rfl
def t71:FT where
 keep:=[]
 kb:=fun
  |_=>[]
 sd:=fun
  |_=>[]
theorem f71_at:Tryz.prog.funcs[71]?=some Tryz.f71:=by kernel_rfl
def t72:FT where
 keep:=[]
 kb:=fun
  |0=>[0,4,2]
  |_=>[]
 sd:=fun
  |10=>[(0,true),(1,true),(2,true),(3,false),(4,false),(5,false),(6,true),(7,false)]
  |13=>[(0,true),(1,true),(2,false),(3,false),(4,true),(5,false)]
  |_=>[]
theorem f72_at:Tryz.prog.funcs[72]?=some Tryz.f72:=by kernel_rfl
def t73:FT where
 keep:=[]
 kb:=fun
  |0=>[0,4,5,3,2]
  |_=>[]
 sd:=fun
  |_=>[]
theorem f73_at:Tryz.prog.funcs[73]?=some Tryz.f73:=by kernel_rfl
def t101:FT where
 keep:=[]
 kb:=fun
  |_=>[]
 sd:=fun
  |_=>[]
theorem f101_at:Tryz.prog.funcs[101]?=some Tryz.f101:=by kernel_rfl
def t102:FT where
 keep:=[]
 kb:=fun
  |0=>[0,4,2]
  |2=>[0,8,3,2]
  |_=>[]
 sd:=fun
  |8=>[(0,true),(1,true),(2,true),(3,false),(4,false),(5,false),(6,true),(7,false)]
  |10=>[(0,true),(1,true),(2,true),(3,false),(4,false),(5,false),(6,true),(7,false)]
  |12=>[(0,true),(1,true),(2,true),(3,false),(4,false),(5,false),(6,true),(7,false)]
  |23=>[(0,true),(1,true),(4,true),(5,true),(2,false),(3,false),(6,true),(7,false)]
  |_=>[]
theorem f102_at:Tryz.prog.funcs[102]?=some Tryz.f102:=by kernel_rfl
def t135:FT where
 keep:=[]
 kb:=fun
  |_=>[]
 sd:=fun
  |4=>[(0,true),(1,true),(2,true),(3,true),(4,false),(5,true),(6,false),(7,false),(8,false),(9,true),(10,false)]
  |7=>[(0,true),(1,true),(2,true),(3,false),(4,false),(5,false),(6,true),(7,false)]
  |_=>[]
theorem f135_at:Tryz.prog.funcs[135]?=some Tryz.f135:=by kernel_rfl
def t136:FT where
 keep:=[]
 kb:=fun
  |1=>[5,0,4,2]
  |_=>[]
 sd:=fun
  |20=>[(0,true),(1,true),(2,true),(3,false),(4,false),(5,false),(6,true),(7,false)]
  |_=>[]
 sx:=fun
  |40=>some (.look 0 (.look 2 (.look 4 (.look 5 (.eff (.cons 1 (.eff (.cons 3 (.look 6 (.eff (.cons 7 (.done) (.nil)))) (.nil))) (.cons 3 (.eff (.cons 1 (.look 6 (.eff (.cons 7 (.done) (.nil)))) (.nil))) (.nil))))))),[0,8,2])
  |_=>none
theorem f136_at:Tryz.prog.funcs[136]?=some Tryz.f136:=by kernel_rfl
def t151:FT where
 keep:=[]
 kb:=fun
  |0=>[3,0,4,2]
  |_=>[]
 sd:=fun
  |7=>[(0,true),(1,true),(2,true),(3,false),(4,false),(5,false),(6,true),(7,false)]
  |_=>[]
theorem f151_at:Tryz.prog.funcs[151]?=some Tryz.f151:=by kernel_rfl
def t154:FT where
 keep:=[]
 kb:=fun
  |_=>[]
 sd:=fun
  |_=>[]
theorem f154_at:Tryz.prog.funcs[154]?=some Tryz.f154:=by kernel_rfl
def t10:FT where
 keep:=[]
 kb:=fun
  |_=>[]
 sd:=fun
  |_=>[]
theorem f10_at:Tryz.prog.funcs[10]?=some Tryz.f10:=by kernel_rfl
def t11:FT where
 keep:=[]
 kb:=fun
  |0=>[5,2,3]
  |2=>[6,2,3]
  |4=>[7,2,3]
  |_=>[]
 sd:=fun
  |6=>[(0,true),(1,true),(2,true),(3,true),(4,true),(5,true),(6,true),(7,true),(8,true),(9,true),(10,false),(11,true)]
  |11=>[(0,true),(1,true),(2,true),(3,true),(4,true),(5,true),(6,true),(7,true),(8,true),(9,true),(10,false),(11,true)]
  |16=>[(0,true),(1,true),(2,true),(3,true),(4,true),(5,true),(6,true),(7,true),(8,true),(9,true),(10,false),(11,true)]
  |_=>[]
theorem f11_at:Tryz.prog.funcs[11]?=some Tryz.f11:=by kernel_rfl
def t25:FT where
 keep:=[]
 kb:=fun
  |0=>[5,0,1]
  |_=>[]
 sd:=fun
  |6=>[(0,true),(1,true),(2,true),(3,true),(4,true),(5,true),(6,true),(7,true),(8,true)]
  |_=>[]
theorem f25_at:Tryz.prog.funcs[25]?=some Tryz.f25:=by kernel_rfl
def t46:FT where
 keep:=[]
 kb:=fun
  |0=>[5,2,3]
  |_=>[]
 sd:=fun
  |6=>[(0,true),(1,true),(2,true),(3,true),(4,true),(5,true),(6,true),(7,true),(8,true),(9,true),(10,true),(11,true),(12,true),(13,true),(14,true),(15,true),(16,true),(17,true),(18,true),(19,true),(20,true),(21,true),(22,true),(23,true),(24,true),(25,true),(26,false),(27,true),(28,true)]
  |_=>[]
theorem f46_at:Tryz.prog.funcs[46]?=some Tryz.f46:=by kernel_rfl
def t47:FT where
 keep:=[]
 kb:=fun
  |0=>[5,2,3]
  |_=>[]
 sd:=fun
  |6=>[(0,true),(1,true),(2,true),(3,true),(4,true),(5,true),(6,true),(7,true),(8,true),(9,true),(10,true),(11,true),(12,true),(13,true),(14,true),(15,true),(16,true),(17,true),(18,true),(19,true),(20,true),(21,true),(22,true),(23,true),(24,true),(25,true),(26,false),(27,true),(28,true)]
  |_=>[]
theorem f47_at:Tryz.prog.funcs[47]?=some Tryz.f47:=by kernel_rfl
def t48:FT where
 keep:=[]
 kb:=fun
  |0=>[5,2,3]
  |_=>[]
 sd:=fun
  |6=>[(0,true),(1,true),(2,true),(3,true),(4,true),(5,true),(6,true),(7,true),(8,true),(9,true),(10,true),(11,true),(12,true),(13,true),(14,true),(15,true),(16,true),(17,true),(18,true),(19,true),(20,true),(21,true),(22,true),(23,true),(24,true),(25,true),(26,false),(27,true),(28,true)]
  |_=>[]
theorem f48_at:Tryz.prog.funcs[48]?=some Tryz.f48:=by kernel_rfl
def t49:FT where
 keep:=[]
 kb:=fun
  |0=>[5,0,1]
  |_=>[]
 sd:=fun
  |6=>[(0,true),(1,true),(2,true),(3,true),(4,true),(5,true),(6,true),(7,true),(8,true),(9,true),(10,true),(11,true),(12,true),(13,true),(14,true),(15,true),(16,true),(17,true),(18,true),(19,true),(20,true),(21,true),(22,false),(23,true),(24,true)]
  |_=>[]
theorem f49_at:Tryz.prog.funcs[49]?=some Tryz.f49:=by kernel_rfl
def t88:FT where
 keep:=[]
 kb:=fun
  |0=>[5,0,1]
  |_=>[]
 sd:=fun
  |6=>[(0,true),(1,true),(2,true),(3,true),(4,true),(5,true),(6,true),(7,true),(8,false),(9,true)]
  |_=>[]
theorem f88_at:Tryz.prog.funcs[88]?=some Tryz.f88:=by kernel_rfl
def t89:FT where
 keep:=[]
 kb:=fun
  |_=>[]
 sd:=fun
  |_=>[]
theorem f89_at:Tryz.prog.funcs[89]?=some Tryz.f89:=by kernel_rfl
def t90:FT where
 keep:=[]
 kb:=fun
  |0=>[5,2,3]
  |2=>[6,2,3]
  |_=>[]
 sd:=fun
  |6=>[(0,true),(1,true),(2,true),(3,true),(4,true),(5,true),(6,true),(7,true),(8,true),(9,true),(10,false),(11,true)]
  |11=>[(0,true),(1,true),(2,true),(3,true),(4,true),(5,true),(6,true),(7,true),(8,true),(9,true),(10,true),(11,true),(12,false),(13,true),(14,true),(15,true),(16,true),(17,true),(18,true),(19,true),(20,true),(21,true),(22,true),(23,true),(24,true),(25,true),(26,true),(27,false),(28,true),(29,true)]
  |_=>[]
theorem f90_at:Tryz.prog.funcs[90]?=some Tryz.f90:=by kernel_rfl
def t122:FT where
 keep:=[]
 kb:=fun
  |0=>[5,2,3]
  |_=>[]
 sd:=fun
  |6=>[(0,true),(1,true),(2,true),(3,true),(4,true),(5,true),(6,true),(7,true),(8,true),(9,true),(10,false),(11,true)]
  |_=>[]
theorem f122_at:Tryz.prog.funcs[122]?=some Tryz.f122:=by kernel_rfl
end Go.Proofs.YtjpjcjnacnlhdaaGreat.X
