/- Joined. -/
import Derived.Test.YtjpjcjnacnlhdaaGreatBc
import Derived.Test.YtjpjcjnacnlhdaaGreatProg
import Derived.KernelRfl
set_option linter.unusedSimpArgs false
set_option linter.unusedVariables false
namespace Go.Proofs.YtjpjcjnacnlhdaaGreat
open Go.RowKit
theorem mixed:Tryz.prog.follows .mixedOrders=true:=by kernel_rfl
def t10:FT where
 keep:=[]
 kb:=fun
  |_=>[]
 sd:=fun
  |_=>[]
def t12:FT where
 keep:=[]
 kb:=fun
  |0=>[10,9,8,1]
  |2=>[17,16,15,10,9,8,1]
  |_=>[]
 sd:=fun
  |_=>[]
def t13:FT where
 keep:=[]
 kb:=fun
  |_=>[]
 sd:=fun
  |_=>[]
theorem f13_at:Tryz.prog.funcs[13]?=some Tryz.f13:=by kernel_rfl
def t14:FT where
 keep:=[]
 kb:=fun
  |0=>[5,2,1]
  |_=>[]
 sd:=fun
  |_=>[]
theorem f14_at:Tryz.prog.funcs[14]?=some Tryz.f14:=by kernel_rfl
def t15:FT where
 keep:=[]
 kb:=fun
  |1=>[40,39,38,3,1]
  |_=>[]
 sd:=fun
  |_=>[]
theorem f15_at:Tryz.prog.funcs[15]?=some Tryz.f15:=by kernel_rfl
def t16:FT where
 keep:=[]
 kb:=fun
  |0=>[8,5,3,1]
  |_=>[]
 sd:=fun
  |14=>[(0,true),(1,true),(2,true),(3,true),(4,true),(5,true),(6,true),(7,false),(8,true)]
  |_=>[]
theorem f16_at:Tryz.prog.funcs[16]?=some Tryz.f16:=by kernel_rfl
def t19:FT where
 keep:=[]
 kb:=fun
  |_=>[]
 sd:=fun
  |_=>[]
theorem f19_at:Tryz.prog.funcs[19]?=some Tryz.f19:=by kernel_rfl
def t20:FT where
 keep:=[]
 kb:=fun
  |0=>[5,2,1]
  |_=>[]
 sd:=fun
  |_=>[]
theorem f20_at:Tryz.prog.funcs[20]?=some Tryz.f20:=by kernel_rfl
def t21:FT where
 keep:=[]
 kb:=fun
  |0=>[14,13,12,3]
  |_=>[]
 sd:=fun
  |_=>[]
theorem f21_at:Tryz.prog.funcs[21]?=some Tryz.f21:=by kernel_rfl
def t22:FT where
 keep:=[]
 kb:=fun
  |0=>[6,2,1]
  |2=>[7,2,6,1]
  |_=>[]
 sd:=fun
  |_=>[]
theorem f22_at:Tryz.prog.funcs[22]?=some Tryz.f22:=by kernel_rfl
def t24:FT where
 keep:=[]
 kb:=fun
  |0=>[7,3,1,2]
  |_=>[]
 sd:=fun
  |_=>[]
theorem f24_at:Tryz.prog.funcs[24]?=some Tryz.f24:=by kernel_rfl
def t26:FT where
 keep:=[]
 kb:=fun
  |_=>[]
 sd:=fun
  |_=>[]
theorem f26_at:Tryz.prog.funcs[26]?=some Tryz.f26:=by kernel_rfl
def t27:FT where
 keep:=[]
 kb:=fun
  |_=>[]
 sd:=fun
  |_=>[]
theorem f27_at:Tryz.prog.funcs[27]?=some Tryz.f27:=by kernel_rfl
def t44:FT where
 keep:=[]
 kb:=fun
  |0=>[5,0,1]
  |_=>[]
 sd:=fun
  |_=>[]
theorem f44_at:Tryz.prog.funcs[44]?=some Tryz.f44:=by kernel_rfl
def t50:FT where
 keep:=[]
 kb:=fun
  |0=>[40,39,38,1]
  |2=>[63,62,61,40,39,38,1]
  |4=>[76,75,74,1]
  |6=>[100,99,98,76,75,74,1]
  |8=>[113,112,111,1]
  |10=>[137,136,135]
  |_=>[]
 sd:=fun
  |_=>[]
def t51:FT where
 keep:=[]
 kb:=fun
  |_=>[]
 sd:=fun
  |_=>[]
theorem f51_at:Tryz.prog.funcs[51]?=some Tryz.f51:=by kernel_rfl
def t54:FT where
 keep:=[]
 kb:=fun
  |_=>[]
 sd:=fun
  |_=>[]
theorem f54_at:Tryz.prog.funcs[54]?=some Tryz.f54:=by kernel_rfl
def t93:FT where
 keep:=[]
 kb:=fun
  |0=>[8,7,1,0]
  |_=>[]
 sd:=fun
  |_=>[]
theorem f93_at:Tryz.prog.funcs[93]?=some Tryz.f93:=by kernel_rfl
def t123:FT where
 keep:=[]
 kb:=fun
  |0=>[6,2,5,1]
  |2=>[7,2,5,1]
  |4=>[8,2,5,1]
  |_=>[]
 sd:=fun
  |13=>[(0,true),(1,true),(2,true),(3,true),(4,true),(5,true),(6,true),(7,true),(8,true),(9,true),(12,true),(13,true),(14,true),(15,true),(16,true),(17,true),(18,true),(19,true),(10,false),(11,true),(20,true),(21,true),(22,true)]
  |_=>[]
def t52:FT where
 keep:=[]
 kb:=fun
  |_=>[]
 sd:=fun
  |_=>[]
theorem f52_at:Tryz.prog.funcs[52]?=some Tryz.f52:=by kernel_rfl
def t57:FT where
 keep:=[]
 kb:=fun
  |_=>[]
 sd:=fun
  |_=>[]
theorem f57_at:Tryz.prog.funcs[57]?=some Tryz.f57:=by kernel_rfl
def t59:FT where
 keep:=[]
 kb:=fun
  |_=>[]
 sd:=fun
  |_=>[]
theorem f59_at:Tryz.prog.funcs[59]?=some Tryz.f59:=by kernel_rfl
def t63:FT where
 keep:=[]
 kb:=fun
  |0=>[24,23,22,2,3]
  |_=>[]
 sd:=fun
  |_=>[]
theorem f63_at:Tryz.prog.funcs[63]?=some Tryz.f63:=by kernel_rfl
def t64:FT where
 keep:=[]
 kb:=fun
  |0=>[9,8,2,3]
  |_=>[]
 sd:=fun
  |9=>[(0,true),(1,true),(2,true),(3,true),(4,true),(5,true),(6,true),(7,true),(8,true),(9,true),(10,false),(11,false),(12,false),(13,true)]
  |_=>[]
theorem f64_at:Tryz.prog.funcs[64]?=some Tryz.f64:=by kernel_rfl
def t92:FT where
 keep:=[]
 kb:=fun
  |0=>[8,7,1,0]
  |_=>[]
 sd:=fun
  |_=>[]
theorem f92_at:Tryz.prog.funcs[92]?=some Tryz.f92:=by kernel_rfl
def t95:FT where
 keep:=[]
 kb:=fun
  |0=>[8,7,1,0]
  |_=>[]
 sd:=fun
  |_=>[]
theorem f95_at:Tryz.prog.funcs[95]?=some Tryz.f95:=by kernel_rfl
def t96:FT where
 keep:=[]
 kb:=fun
  |0=>[8,7,1,0]
  |_=>[]
 sd:=fun
  |_=>[]
theorem f96_at:Tryz.prog.funcs[96]?=some Tryz.f96:=by kernel_rfl
def t53:FT where
 keep:=[]
 kb:=fun
  |_=>[]
 sd:=fun
  |_=>[]
theorem f53_at:Tryz.prog.funcs[53]?=some Tryz.f53:=by kernel_rfl
def t58:FT where
 keep:=[]
 kb:=fun
  |_=>[]
 sd:=fun
  |_=>[]
theorem f58_at:Tryz.prog.funcs[58]?=some Tryz.f58:=by kernel_rfl
def t60:FT where
 keep:=[]
 kb:=fun
  |_=>[]
 sd:=fun
  |_=>[]
theorem f60_at:Tryz.prog.funcs[60]?=some Tryz.f60:=by kernel_rfl
def t8:FT where
 keep:=[]
 kb:=fun
  |_=>[]
 sd:=fun
  |4=>[(0,true),(1,true),(2,false),(3,false)]
  |_=>[]
 sx:=fun
  |1=>some (.look 0 (.look 1 (.look 3 (.look 4 (.look 6 (.look 7 (.eff (.cons 2 (.eff (.cons 5 (.eff (.cons 8 (.look 9 (.eff (.cons 10 (.look 11 (.eff (.cons 12 (.look 13 (.done)) (.nil)))) (.nil)))) (.cons 10 (.eff (.cons 8 (.look 9 (.look 11 (.eff (.cons 12 (.look 13 (.done)) (.nil))))) (.nil))) (.nil)))) (.cons 10 (.eff (.cons 5 (.eff (.cons 8 (.look 9 (.look 11 (.eff (.cons 12 (.look 13 (.done)) (.nil))))) (.nil))) (.nil))) (.nil)))) (.cons 10 (.eff (.cons 2 (.eff (.cons 5 (.eff (.cons 8 (.look 9 (.look 11 (.eff (.cons 12 (.look 13 (.done)) (.nil))))) (.nil))) (.nil))) (.nil))) (.nil))))))))),[4,1,2,3])
  |_=>none
theorem f8_at:Tryz.prog.funcs[8]?=some Tryz.f8:=by kernel_rfl
theorem f8_body:Tryz.f8.body.isSome=true:=by kernel_rfl
theorem f8_tab:tabOk t8.sd t8.sx (bodyOf Tryz.f8)=true:=by kernel_rfl
def t39:FT where
 keep:=[]
 kb:=fun
  |0=>[26,25,0,1,4]
  |2=>[39,38,37,0,1,4]
  |4=>[49,48,47,0,1,4]
  |_=>[]
 sd:=fun
  |17=>[(0,true),(1,true),(2,true),(3,true),(4,true),(5,true),(6,false),(7,true),(8,true),(9,true),(10,true),(11,true),(12,true),(13,true)]
  |_=>[]
 rs:=[4]
 df:=true
theorem f39_at:Tryz.prog.funcs[39]?=some Tryz.f39:=by kernel_rfl
def t75:FT where
 keep:=[]
 kb:=fun
  |0=>[24,23,22,0]
  |2=>[64,63,62,8,0]
  |4=>[71,70,69,10,8,0,64,63,62]
  |6=>[90,89,88,8,0,10,64,63,62]
  |8=>[115,114,113,0,10,14,90,89,88,8,64,63,62]
  |_=>[]
 sd:=fun
  |14=>[(0,true),(1,true),(2,true),(3,true),(4,true),(7,true),(8,true),(5,false),(6,true),(9,false)]
  |25=>[(0,true),(1,true),(2,true),(3,true),(4,true),(5,true),(6,true),(7,false),(8,true)]
  |_=>[]
theorem f75_at:Tryz.prog.funcs[75]?=some Tryz.f75:=by kernel_rfl
def t76:FT where
 keep:=[]
 kb:=fun
  |0=>[28,27,26,2,0]
  |2=>[49,48,47,0,2]
  |4=>[56,55,54,0,8,49,48,47,2]
  |6=>[88,87,86,0,2]
  |8=>[110,109,108,15,0]
  |10=>[117,116,115,15,0,17,110,109,108]
  |_=>[]
 sd:=fun
  |15=>[(0,true),(1,true),(2,true),(3,true),(4,true),(7,true),(8,true),(5,false),(6,true),(9,false)]
  |21=>[(0,true),(1,true),(2,true),(3,true),(4,true),(5,true),(7,true),(8,true),(11,true),(12,true),(6,false),(9,false),(10,true),(13,false)]
  |32=>[(0,true),(1,true),(2,true),(3,true),(4,true),(5,true),(7,true),(8,true),(6,false),(9,false),(10,true)]
  |34=>[(0,true),(1,true),(3,true),(4,true),(2,false),(5,false)]
  |_=>[]
theorem f76_at:Tryz.prog.funcs[76]?=some Tryz.f76:=by kernel_rfl
def t77:FT where
 keep:=[]
 kb:=fun
  |0=>[74,73,72,0,4,5]
  |2=>[136,135,134,4,16]
  |_=>[]
 sd:=fun
  |1=>[(0,true),(1,true),(2,true),(3,true),(4,true),(5,true),(6,false),(7,true),(8,true),(9,true),(10,true),(11,true)]
  |5=>[(0,true),(1,true),(2,true),(3,true),(4,true),(5,true),(6,true),(7,true),(8,true),(9,true),(10,true)]
  |7=>[(0,true),(1,true),(2,true),(3,true),(4,true),(5,true),(6,false)]
  |11=>[(0,true),(1,true),(2,true),(3,true),(4,true),(5,true),(6,false),(7,true),(8,true),(9,true),(10,true),(11,true)]
  |24=>[(0,true),(1,true),(2,true),(10,true),(11,true),(3,false),(4,true),(5,true),(6,true),(7,true),(8,false),(9,true),(12,false)]
  |_=>[]
theorem f77_at:Tryz.prog.funcs[77]?=some Tryz.f77:=by kernel_rfl
def t78:FT where
 keep:=[]
 kb:=fun
  |0=>[35,34,33,0,3]
  |2=>[67,66,65,10,0,3,35,34,33]
  |_=>[]
 sd:=fun
  |1=>[(0,true),(1,true),(2,true),(3,true),(4,true),(5,true),(6,false),(7,true),(8,true),(9,true),(10,true),(11,true)]
  |5=>[(0,true),(1,true),(2,true),(3,true),(4,true),(5,true),(6,true),(7,true),(8,true),(9,true),(10,true),(11,true),(12,true),(13,true),(14,true)]
  |12=>[(0,true),(1,true),(2,true),(3,true),(4,true),(5,true),(6,true),(7,true),(8,true),(9,true),(10,true),(12,true),(13,true),(11,false),(14,false)]
  |_=>[]
theorem f78_at:Tryz.prog.funcs[78]?=some Tryz.f78:=by kernel_rfl
def t79:FT where
 keep:=[]
 kb:=fun
  |_=>[]
 sd:=fun
  |_=>[]
theorem f79_at:Tryz.prog.funcs[79]?=some Tryz.f79:=by kernel_rfl
def t108:FT where
 keep:=[]
 kb:=fun
  |0=>[14,13,12,5,1]
  |_=>[]
 sd:=fun
  |_=>[]
theorem f108_at:Tryz.prog.funcs[108]?=some Tryz.f108:=by kernel_rfl
def t109:FT where
 keep:=[]
 kb:=fun
  |0=>[50,49,48,3]
  |_=>[]
 sd:=fun
  |1=>[(0,true),(1,true),(2,true),(3,true),(4,true),(5,true),(6,true),(7,false),(8,true),(9,true),(10,true),(11,true),(12,true)]
  |_=>[]
theorem f109_at:Tryz.prog.funcs[109]?=some Tryz.f109:=by kernel_rfl
def t110:FT where
 keep:=[]
 kb:=fun
  |_=>[]
 sd:=fun
  |_=>[]
theorem f110_at:Tryz.prog.funcs[110]?=some Tryz.f110:=by kernel_rfl
def t112:FT where
 keep:=[]
 kb:=fun
  |_=>[]
 sd:=fun
  |_=>[]
theorem f112_at:Tryz.prog.funcs[112]?=some Tryz.f112:=by kernel_rfl
def t115:FT where
 keep:=[]
 kb:=fun
  |_=>[]
 sd:=fun
  |_=>[]
theorem f115_at:Tryz.prog.funcs[115]?=some Tryz.f115:=by kernel_rfl
def t117:FT where
 keep:=[]
 kb:=fun
  |_=>[]
 sd:=fun
  |_=>[]
theorem f117_at:Tryz.prog.funcs[117]?=some Tryz.f117:=by kernel_rfl
def t118:FT where
 keep:=[]
 kb:=fun
  |0=>[8,7,1,0]
  |_=>[]
 sd:=fun
  |_=>[]
theorem f118_at:Tryz.prog.funcs[118]?=some Tryz.f118:=by kernel_rfl
def t143:FT where
 keep:=[]
 kb:=fun
  |0=>[8,7,1,0]
  |_=>[]
 sd:=fun
  |_=>[]
theorem f143_at:Tryz.prog.funcs[143]?=some Tryz.f143:=by kernel_rfl
def t144:FT where
 keep:=[]
 kb:=fun
  |0=>[8,7,1,0]
  |_=>[]
 sd:=fun
  |_=>[]
theorem f144_at:Tryz.prog.funcs[144]?=some Tryz.f144:=by kernel_rfl
def t145:FT where
 keep:=[]
 kb:=fun
  |_=>[]
 sd:=fun
  |_=>[]
theorem f145_at:Tryz.prog.funcs[145]?=some Tryz.f145:=by kernel_rfl
def t80:FT where
 keep:=[]
 kb:=fun
  |_=>[]
 sd:=fun
  |_=>[]
theorem f80_at:Tryz.prog.funcs[80]?=some Tryz.f80:=by kernel_rfl
def t105:FT where
 keep:=[]
 kb:=fun
  |_=>[]
 sd:=fun
  |_=>[]
theorem f105_at:Tryz.prog.funcs[105]?=some Tryz.f105:=by kernel_rfl
def t106:FT where
 keep:=[]
 kb:=fun
  |_=>[]
 sd:=fun
  |_=>[]
theorem f106_at:Tryz.prog.funcs[106]?=some Tryz.f106:=by kernel_rfl
def t111:FT where
 keep:=[]
 kb:=fun
  |_=>[]
 sd:=fun
  |_=>[]
theorem f111_at:Tryz.prog.funcs[111]?=some Tryz.f111:=by kernel_rfl
def t113:FT where
 keep:=[]
 kb:=fun
  |_=>[]
 sd:=fun
  |_=>[]
theorem f113_at:Tryz.prog.funcs[113]?=some Tryz.f113:=by kernel_rfl
def t114:FT where
 keep:=[]
 kb:=fun
  |_=>[]
 sd:=fun
  |_=>[]
theorem f114_at:Tryz.prog.funcs[114]?=some Tryz.f114:=by kernel_rfl
def t116:FT where
 keep:=[]
 kb:=fun
  |_=>[]
 sd:=fun
  |_=>[]
theorem f116_at:Tryz.prog.funcs[116]?=some Tryz.f116:=by kernel_rfl
def t140:FT where
 keep:=[]
 kb:=fun
  |_=>[]
 sd:=fun
  |_=>[]
theorem f140_at:Tryz.prog.funcs[140]?=some Tryz.f140:=by kernel_rfl
def t141:FT where
 keep:=[]
 kb:=fun
  |_=>[]
 sd:=fun
  |_=>[]
theorem f141_at:Tryz.prog.funcs[141]?=some Tryz.f141:=by kernel_rfl
def t142:FT where
 keep:=[]
 kb:=fun
  |_=>[]
 sd:=fun
  |_=>[]
theorem f142_at:Tryz.prog.funcs[142]?=some Tryz.f142:=by kernel_rfl
def t146:FT where
 keep:=[]
 kb:=fun
  |_=>[]
 sd:=fun
  |1=>[(0,true),(1,true),(2,true),(3,true),(4,true),(5,true),(6,true),(7,true),(8,true),(9,true),(10,true),(11,true),(12,true),(13,true),(14,true),(15,true),(16,true),(18,true),(17,false),(19,false),(20,true),(21,true),(22,true)]
  |_=>[]
theorem f146_at:Tryz.prog.funcs[146]?=some Tryz.f146:=by kernel_rfl
def t9:FT where
 keep:=[]
 kb:=fun
  |0=>[5,3,4,2,1]
  |2=>[6,3,2,1]
  |4=>[7,1,3,2]
  |_=>[]
 sd:=fun
  |17=>[(0,true),(1,true),(2,true),(3,true),(4,true),(5,true),(6,false),(7,true)]
  |22=>[(0,true),(1,true),(2,true),(3,true),(4,true),(5,true),(6,true),(7,false),(8,true),(9,true),(10,true),(11,true),(12,true)]
  |23=>[(0,true),(1,true),(2,true),(3,true),(4,true),(5,true),(6,true),(8,true),(9,true),(10,true),(11,true),(12,true),(13,true),(7,false),(14,false),(15,true)]
  |_=>[]
theorem f9_at:Tryz.prog.funcs[9]?=some Tryz.f9:=by kernel_rfl
def t40:FT where
 keep:=[]
 kb:=fun
  |0=>[3,1,2]
  |2=>[5,3,1,4,2]
  |4=>[7,1,2,6]
  |6=>[9,8,2,6,1,7]
  |8=>[10,8,6,2,1,7]
  |10=>[12,11,1,8,2,10,6,7]
  |_=>[]
 sd:=fun
  |10=>[(0,true),(1,true),(2,true),(3,true),(4,true),(5,true),(6,true),(7,true),(8,true)]
  |20=>[(0,true),(1,true),(2,true),(3,true),(4,true),(5,true),(6,true),(7,true),(8,true),(9,false)]
  |34=>[(0,true),(1,true),(2,true),(3,true),(4,true),(5,true),(6,true),(7,true),(8,false),(9,true)]
  |_=>[]
theorem f40_at:Tryz.prog.funcs[40]?=some Tryz.f40:=by kernel_rfl
def t41:FT where
 keep:=[]
 kb:=fun
  |0=>[4,1,3,2]
  |2=>[5,1,3,2]
  |4=>[7,6,3,2,5,1]
  |6=>[8,1,2]
  |8=>[10,1,9,2]
  |10=>[12,11,9,2,1,10]
  |_=>[]
 sd:=fun
  |17=>[(0,true),(1,true),(2,true),(3,true),(4,true),(5,true),(6,true),(7,true),(8,true),(9,false)]
  |22=>[(0,true),(1,true),(2,true),(3,true),(4,true),(5,true),(6,true),(8,true),(9,true),(10,true),(11,true),(12,true),(13,true),(7,false),(14,false)]
  |_=>[]
theorem f41_at:Tryz.prog.funcs[41]?=some Tryz.f41:=by kernel_rfl
def t42:FT where
 keep:=[]
 kb:=fun
  |0=>[11,10,9,5,4]
  |_=>[]
 sd:=fun
  |16=>[(0,true),(1,true),(3,true),(4,true),(5,true),(6,true),(7,true),(8,true),(2,false),(9,false),(10,false),(11,true)]
  |_=>[]
 sx:=fun
  |13=>some (.look 0 (.look 1 (.look 2 (.look 3 (.look 4 (.look 5 (.look 6 (.eff (.cons 7 (.eff (.cons 8 (.eff (.cons 9 (.done) (.nil))) (.nil))) (.cons 8 (.eff (.cons 7 (.eff (.cons 9 (.done) (.nil))) (.nil))) (.nil)))))))))),[8,4,5,2,6])
  |_=>none
theorem f42_at:Tryz.prog.funcs[42]?=some Tryz.f42:=by kernel_rfl
def t43:FT where
 keep:=[]
 kb:=fun
  |0=>[6,5,2,3]
  |2=>[9,8,2,3,6,5]
  |4=>[10,8,9,2,3,6,5]
  |_=>[]
 sd:=fun
  |1=>[(0,true),(1,true),(2,true),(3,true),(4,true),(5,false),(6,true),(7,true),(8,true),(9,true)]
  |5=>[(0,true),(1,true),(2,true),(3,true),(4,true),(5,true),(6,true),(7,true),(8,false),(9,true)]
  |15=>[(0,true),(1,true),(2,true),(3,true),(4,true),(5,true),(6,true),(7,true),(8,true),(9,true),(10,true),(11,true),(12,true),(13,true),(14,true),(15,true),(16,true),(17,true),(18,true),(19,true),(20,true),(21,true),(22,true),(23,true),(24,true),(25,true),(26,true),(27,true),(28,true),(29,true),(30,true),(31,false),(32,true),(33,true)]
  |_=>[]
theorem f43_at:Tryz.prog.funcs[43]?=some Tryz.f43:=by kernel_rfl
def t82:FT where
 keep:=[]
 kb:=fun
  |0=>[5,3,4]
  |_=>[]
 sd:=fun
  |_=>[]
theorem f82_at:Tryz.prog.funcs[82]?=some Tryz.f82:=by kernel_rfl
def t120:FT where
 keep:=[]
 kb:=fun
  |0=>[4,1,3]
  |_=>[]
 sd:=fun
  |_=>[]
theorem f120_at:Tryz.prog.funcs[120]?=some Tryz.f120:=by kernel_rfl
def t121:FT where
 keep:=[]
 kb:=fun
  |0=>[4,1,3]
  |_=>[]
 sd:=fun
  |_=>[]
theorem f121_at:Tryz.prog.funcs[121]?=some Tryz.f121:=by kernel_rfl
def t45:FT where
 keep:=[]
 kb:=fun
  |0=>[4,0,3]
  |_=>[]
 sd:=fun
  |_=>[]
theorem f45_at:Tryz.prog.funcs[45]?=some Tryz.f45:=by kernel_rfl
def t86:FT where
 keep:=[]
 kb:=fun
  |0=>[4,1,3]
  |_=>[]
 sd:=fun
  |_=>[]
theorem f86_at:Tryz.prog.funcs[86]?=some Tryz.f86:=by kernel_rfl
def t85:FT where
 keep:=[]
 kb:=fun
  |0=>[5,3,2]
  |2=>[7,5,3,6,2]
  |_=>[]
 sd:=fun
  |7=>[(0,true),(1,true),(2,true),(3,true),(4,true),(5,true),(7,true),(8,true),(9,true),(6,false),(10,false),(11,true),(12,true)]
  |12=>[(0,true),(1,true),(2,true),(3,true),(4,true),(5,true),(6,true),(7,true),(8,true),(9,true),(10,true),(11,true),(12,true),(13,true),(14,true),(15,true),(16,true),(17,true),(18,true),(19,true),(20,true),(21,true)]
  |_=>[]
theorem f85_at:Tryz.prog.funcs[85]?=some Tryz.f85:=by kernel_rfl
def t87:FT where
 keep:=[]
 kb:=fun
  |0=>[9,5,3,2,4]
  |_=>[]
 sd:=fun
  |4=>[(0,true),(1,true),(2,true),(3,true),(4,true),(5,true),(6,true),(7,true),(8,true),(9,true),(10,true),(11,true),(12,true),(13,true),(14,true),(15,true),(16,true),(17,true),(18,true),(19,true),(20,true),(21,true),(22,true),(23,true),(24,true),(25,true),(27,true),(26,false),(28,false),(29,true),(30,true)]
  |_=>[]
theorem f87_at:Tryz.prog.funcs[87]?=some Tryz.f87:=by kernel_rfl
def t119:FT where
 keep:=[]
 kb:=fun
  |_=>[]
 sd:=fun
  |_=>[]
theorem f119_at:Tryz.prog.funcs[119]?=some Tryz.f119:=by kernel_rfl
def t81:FT where
 keep:=[]
 kb:=fun
  |_=>[]
 sd:=fun
  |_=>[]
theorem f81_at:Tryz.prog.funcs[81]?=some Tryz.f81:=by kernel_rfl
def t36:FT where
 keep:=[]
 kb:=fun
  |_=>[]
 sd:=fun
  |_=>[]
theorem f36_at:Tryz.prog.funcs[36]?=some Tryz.f36:=by kernel_rfl
theorem f36_body:Tryz.f36.body.isSome=true:=by kernel_rfl
theorem f36_tab:tabOk t36.sd t36.sx (bodyOf Tryz.f36)=true:=by kernel_rfl
def t37:FT where
 keep:=[]
 kb:=fun
  |_=>[]
 sd:=fun
  |_=>[]
theorem f37_at:Tryz.prog.funcs[37]?=some Tryz.f37:=by kernel_rfl
theorem f37_body:Tryz.f37.body.isSome=true:=by kernel_rfl
theorem f37_tab:tabOk t37.sd t37.sx (bodyOf Tryz.f37)=true:=by kernel_rfl
def t38:FT where
 keep:=[]
 kb:=fun
  |_=>[]
 sd:=fun
  |_=>[]
theorem f38_at:Tryz.prog.funcs[38]?=some Tryz.f38:=by kernel_rfl
theorem f38_body:Tryz.f38.body.isSome=true:=by kernel_rfl
theorem f38_tab:tabOk t38.sd t38.sx (bodyOf Tryz.f38)=true:=by kernel_rfl
def t83:FT where
 keep:=[]
 kb:=fun
  |0=>[5,0,3,4]
  |_=>[]
 sd:=fun
  |4=>[(0,true),(2,true),(3,true),(4,true),(5,true),(6,true),(1,false),(7,false),(8,true)]
  |6=>[(0,true),(1,true),(2,true),(4,true),(5,true),(6,true),(7,true),(8,true),(3,false),(9,false)]
  |_=>[]
theorem f83_at:Tryz.prog.funcs[83]?=some Tryz.f83:=by kernel_rfl
def t84:FT where
 keep:=[]
 kb:=fun
  |0=>[6,5,3]
  |_=>[]
 sd:=fun
  |3=>[(0,true),(1,true),(2,true),(3,true),(5,true),(6,true),(7,true),(8,true),(4,false),(9,true)]
  |9=>[(0,true),(1,true),(2,true),(3,true),(4,true),(5,true),(6,true),(7,true),(8,true),(9,true),(10,true),(11,true),(12,true),(13,true),(14,true),(15,true),(16,true),(17,true),(18,true),(19,true),(20,true),(21,true),(22,true),(23,true),(24,true),(25,true),(26,true),(27,false),(28,true)]
  |_=>[]
theorem f84_at:Tryz.prog.funcs[84]?=some Tryz.f84:=by kernel_rfl
def t107:FT where
 keep:=[]
 kb:=fun
  |_=>[]
 sd:=fun
  |_=>[]
theorem f107_at:Tryz.prog.funcs[107]?=some Tryz.f107:=by kernel_rfl
def t139:FT where
 keep:=[]
 kb:=fun
  |_=>[]
 sd:=fun
  |_=>[]
theorem f139_at:Tryz.prog.funcs[139]?=some Tryz.f139:=by kernel_rfl
end Go.Proofs.YtjpjcjnacnlhdaaGreat
