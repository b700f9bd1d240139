/- The trees' functions. Printed by Gen.lean,merge.py. -/
import Derived.Test.YtkamjbmjjhbjcaaGreatDoorBc
import Derived.Test.YtkamjbmjjhbjcaaGreatDoorProg
import Derived.KernelRfl
set_option linter.unusedVariables false
set_option linter.unusedSimpArgs false
namespace Go.Proofs.YtkamjbmjjhbjcaaGreatDoor
open Go.RowKit
set_option linter.unusedSimpArgs false
set_option linter.unusedVariables false
theorem mixed:Tryz.prog.follows .mixedOrders=true:=by kernel_rfl
def t4:FT where
 keep:=[]
 kb:=fun
  |_=>[]
 sd:=fun
  |_=>[]
theorem f4_at:Tryz.prog.funcs[4]? = some Tryz.f4:=by kernel_rfl
theorem f4_body:Tryz.f4.body.isSome=true:=by kernel_rfl
theorem f4_tab:tabOk t4.sd t4.sx (bodyOf Tryz.f4)=true:=by kernel_rfl
def t12:FT where
 keep:=[]
 kb:=fun
  |0=>[3,1]
  |_=>[]
 sd:=fun
  |_=>[]
theorem f12_at:Tryz.prog.funcs[12]? = some Tryz.f12:=by kernel_rfl
theorem f12_body:Tryz.f12.body.isSome=true:=by kernel_rfl
theorem f12_tab:tabOk t12.sd t12.sx (bodyOf Tryz.f12)=true:=by kernel_rfl
theorem f12_loop0:isLoop1 (subs 0 (bodyOf Tryz.f12))=true:=by kernel_rfl
theorem f12_tab0:tabOk t12.sd t12.sx (lb Tryz.f12 0)=true:=by kernel_rfl
def t13:FT where
 keep:=[]
 kb:=fun
  |0=>[4,1,3]
  |_=>[]
 sd:=fun
  |_=>[]
theorem f13_at:Tryz.prog.funcs[13]? = some Tryz.f13:=by kernel_rfl
theorem f13_body:Tryz.f13.body.isSome=true:=by kernel_rfl
theorem f13_tab:tabOk t13.sd t13.sx (bodyOf Tryz.f13)=true:=by kernel_rfl
theorem f13_loop0:isLoop1 (subs 0 (bodyOf Tryz.f13))=true:=by kernel_rfl
theorem f13_tab0:tabOk t13.sd t13.sx (lb Tryz.f13 0)=true:=by kernel_rfl
def t14:FT where
 keep:=[]
 kb:=fun
  |0=>[3,1]
  |_=>[]
 sd:=fun
  |_=>[]
theorem f14_at:Tryz.prog.funcs[14]? = some Tryz.f14:=by kernel_rfl
theorem f14_body:Tryz.f14.body.isSome=true:=by kernel_rfl
theorem f14_tab:tabOk t14.sd t14.sx (bodyOf Tryz.f14)=true:=by kernel_rfl
theorem f14_loop0:isLoop1 (subs 0 (bodyOf Tryz.f14))=true:=by kernel_rfl
theorem f14_tab0:tabOk t14.sd t14.sx (lb Tryz.f14 0)=true:=by kernel_rfl
def t15:FT where
 keep:=[]
 kb:=fun
  |0=>[4,1,3]
  |_=>[]
 sd:=fun
  |3=>[(0,true),(1,true),(2,true),(3,true),(6,true),(7,true),(8,true),(9,true),(4,false),(5,true),(10,false),(11,true),(12,true)]
  |4=>[(0,true),(1,true),(2,true),(3,true),(6,true),(7,true),(8,true),(9,true),(4,false),(5,true),(10,false),(11,true),(12,true)]
  |_=>[]
theorem f15_at:Tryz.prog.funcs[15]? = some Tryz.f15:=by kernel_rfl
theorem f15_body:Tryz.f15.body.isSome=true:=by kernel_rfl
theorem f15_tab:tabOk t15.sd t15.sx (bodyOf Tryz.f15)=true:=by kernel_rfl
theorem f15_loop0:isLoop1 (subs 0 (bodyOf Tryz.f15))=true:=by kernel_rfl
theorem f15_tab0:tabOk t15.sd t15.sx (lb Tryz.f15 0)=true:=by kernel_rfl
def t16:FT where
 keep:=[]
 kb:=fun
  |1=>[28,27,26,3]
  |_=>[]
 sd:=fun
  |_=>[]
theorem f16_at:Tryz.prog.funcs[16]? = some Tryz.f16:=by kernel_rfl
theorem f16_body:Tryz.f16.body.isSome=true:=by kernel_rfl
theorem f16_tab:tabOk t16.sd t16.sx (bodyOf Tryz.f16)=true:=by kernel_rfl
theorem f16_loop1:isLoop1 (subs 1 (bodyOf Tryz.f16))=true:=by kernel_rfl
theorem f16_tab1:tabOk t16.sd t16.sx (lb Tryz.f16 1)=true:=by kernel_rfl
def t17:FT where
 keep:=[]
 kb:=fun
  |_=>[]
 sd:=fun
  |_=>[]
theorem f17_at:Tryz.prog.funcs[17]? = some Tryz.f17:=by kernel_rfl
theorem f17_body:Tryz.f17.body.isSome=true:=by kernel_rfl
theorem f17_tab:tabOk t17.sd t17.sx (bodyOf Tryz.f17)=true:=by kernel_rfl
def t29:FT where
 keep:=[]
 kb:=fun
  |_=>[]
 sd:=fun
  |_=>[]
theorem f29_at:Tryz.prog.funcs[29]? = some Tryz.f29:=by kernel_rfl
theorem f29_body:Tryz.f29.body.isSome=true:=by kernel_rfl
theorem f29_tab:tabOk t29.sd t29.sx (bodyOf Tryz.f29)=true:=by kernel_rfl
def t32:FT where
 keep:=[]
 kb:=fun
  |_=>[]
 sd:=fun
  |_=>[]
theorem f32_at:Tryz.prog.funcs[32]? = some Tryz.f32:=by kernel_rfl
theorem f32_body:Tryz.f32.body.isSome=true:=by kernel_rfl
theorem f32_tab:tabOk t32.sd t32.sx (bodyOf Tryz.f32)=true:=by kernel_rfl
def t42:FT where
 keep:=[]
 kb:=fun
  |_=>[]
 sd:=fun
  |_=>[]
theorem f42_at:Tryz.prog.funcs[42]? = some Tryz.f42:=by kernel_rfl
theorem f42_body:Tryz.f42.body.isSome=true:=by kernel_rfl
theorem f42_tab:tabOk t42.sd t42.sx (bodyOf Tryz.f42)=true:=by kernel_rfl
def t44:FT where
 keep:=[]
 kb:=fun
  |0=>[37,36,35,4]
  |_=>[]
 sd:=fun
  |_=>[]
theorem f44_at:Tryz.prog.funcs[44]? = some Tryz.f44:=by kernel_rfl
theorem f44_body:Tryz.f44.body.isSome=true:=by kernel_rfl
theorem f44_tab:tabOk t44.sd t44.sx (bodyOf Tryz.f44)=true:=by kernel_rfl
theorem f44_loop0:isLoop1 (subs 0 (bodyOf Tryz.f44))=true:=by kernel_rfl
theorem f44_tab0:tabOk t44.sd t44.sx (lb Tryz.f44 0)=true:=by kernel_rfl
def t88:FT where
 keep:=[]
 kb:=fun
  |_=>[]
 sd:=fun
  |_=>[]
theorem f88_at:Tryz.prog.funcs[88]? = some Tryz.f88:=by kernel_rfl
theorem f88_body:Tryz.f88.body.isSome=true:=by kernel_rfl
theorem f88_tab:tabOk t88.sd t88.sx (bodyOf Tryz.f88)=true:=by kernel_rfl
def t41:FT where
 keep:=[]
 kb:=fun
  |_=>[]
 sd:=fun
  |_=>[]
theorem f41_at:Tryz.prog.funcs[41]? = some Tryz.f41:=by kernel_rfl
theorem f41_body:Tryz.f41.body.isSome=true:=by kernel_rfl
theorem f41_tab:tabOk t41.sd t41.sx (bodyOf Tryz.f41)=true:=by kernel_rfl
def t84:FT where
 keep:=[]
 kb:=fun
  |_=>[]
 sd:=fun
  |_=>[]
theorem f84_at:Tryz.prog.funcs[84]? = some Tryz.f84:=by kernel_rfl
theorem f84_body:Tryz.f84.body.isSome=true:=by kernel_rfl
theorem f84_tab:tabOk t84.sd t84.sx (bodyOf Tryz.f84)=true:=by kernel_rfl
def t85:FT where
 keep:=[]
 kb:=fun
  |0=>[0,3]
  |_=>[]
 sd:=fun
  |_=>[]
theorem f85_at:Tryz.prog.funcs[85]? = some Tryz.f85:=by kernel_rfl
theorem f85_body:Tryz.f85.body.isSome=true:=by kernel_rfl
theorem f85_tab:tabOk t85.sd t85.sx (bodyOf Tryz.f85)=true:=by kernel_rfl
theorem f85_loop0:isLoop1 (subs 0 (bodyOf Tryz.f85))=true:=by kernel_rfl
theorem f85_tab0:tabOk t85.sd t85.sx (lb Tryz.f85 0)=true:=by kernel_rfl
def t86:FT where
 keep:=[]
 kb:=fun
  |_=>[]
 sd:=fun
  |_=>[]
theorem f86_at:Tryz.prog.funcs[86]? = some Tryz.f86:=by kernel_rfl
theorem f86_body:Tryz.f86.body.isSome=true:=by kernel_rfl
theorem f86_tab:tabOk t86.sd t86.sx (bodyOf Tryz.f86)=true:=by kernel_rfl
def t127:FT where
 keep:=[]
 kb:=fun
  |_=>[]
 sd:=fun
  |_=>[]
theorem f127_at:Tryz.prog.funcs[127]? = some Tryz.f127:=by kernel_rfl
theorem f127_body:Tryz.f127.body.isSome=true:=by kernel_rfl
theorem f127_tab:tabOk t127.sd t127.sx (bodyOf Tryz.f127)=true:=by kernel_rfl
def t128:FT where
 keep:=[]
 kb:=fun
  |_=>[]
 sd:=fun
  |_=>[]
theorem f128_at:Tryz.prog.funcs[128]? = some Tryz.f128:=by kernel_rfl
theorem f128_body:Tryz.f128.body.isSome=true:=by kernel_rfl
theorem f128_tab:tabOk t128.sd t128.sx (bodyOf Tryz.f128)=true:=by kernel_rfl
def t74:FT where
 keep:=[]
 kb:=fun
  |0=>[9,8,7,1]
  |_=>[]
 sd:=fun
  |_=>[]
theorem f74_at:Tryz.prog.funcs[74]? = some Tryz.f74:=by kernel_rfl
theorem f74_body:Tryz.f74.body.isSome=true:=by kernel_rfl
theorem f74_tab:tabOk t74.sd t74.sx (bodyOf Tryz.f74)=true:=by kernel_rfl
theorem f74_loop0:isLoop1 (subs 0 (bodyOf Tryz.f74))=true:=by kernel_rfl
theorem f74_tab0:tabOk t74.sd t74.sx (lb Tryz.f74 0)=true:=by kernel_rfl
def t75:FT where
 keep:=[]
 kb:=fun
  |0=>[9,8,7,1]
  |_=>[]
 sd:=fun
  |_=>[]
theorem f75_at:Tryz.prog.funcs[75]? = some Tryz.f75:=by kernel_rfl
theorem f75_body:Tryz.f75.body.isSome=true:=by kernel_rfl
theorem f75_tab:tabOk t75.sd t75.sx (bodyOf Tryz.f75)=true:=by kernel_rfl
theorem f75_loop0:isLoop1 (subs 0 (bodyOf Tryz.f75))=true:=by kernel_rfl
theorem f75_tab0:tabOk t75.sd t75.sx (lb Tryz.f75 0)=true:=by kernel_rfl
def t9:FT where
 keep:=[]
 kb:=fun
  |_=>[]
 sd:=fun
  |1=>[(0,true),(2,true),(3,true),(4,true),(1,false),(5,true),(6,true),(7,true),(8,false),(9,true),(10,true),(11,true),(12,true),(13,true),(14,true),(15,true),(16,true),(17,true),(18,true),(19,true),(20,true),(21,true),(22,true),(23,true),(24,true),(25,true),(26,true),(27,true),(28,true),(29,true),(30,true)]
  |_=>[]
theorem f9_at:Tryz.prog.funcs[9]? = some Tryz.f9:=by kernel_rfl
theorem f9_body:Tryz.f9.body.isSome=true:=by kernel_rfl
theorem f9_tab:tabOk t9.sd t9.sx (bodyOf Tryz.f9)=true:=by kernel_rfl
def t27:FT where
 keep:=[]
 kb:=fun
  |_=>[]
 sd:=fun
  |_=>[]
theorem f27_at:Tryz.prog.funcs[27]? = some Tryz.f27:=by kernel_rfl
theorem f27_body:Tryz.f27.body.isSome=true:=by kernel_rfl
theorem f27_tab:tabOk t27.sd t27.sx (bodyOf Tryz.f27)=true:=by kernel_rfl
def t28:FT where
 keep:=[]
 kb:=fun
  |_=>[]
 sd:=fun
  |_=>[]
theorem f28_at:Tryz.prog.funcs[28]? = some Tryz.f28:=by kernel_rfl
theorem f28_body:Tryz.f28.body.isSome=true:=by kernel_rfl
theorem f28_tab:tabOk t28.sd t28.sx (bodyOf Tryz.f28)=true:=by kernel_rfl
def t30:FT where
 keep:=[]
 kb:=fun
  |_=>[]
 sd:=fun
  |_=>[]
theorem f30_at:Tryz.prog.funcs[30]? = some Tryz.f30:=by kernel_rfl
theorem f30_body:Tryz.f30.body.isSome=true:=by kernel_rfl
theorem f30_tab:tabOk t30.sd t30.sx (bodyOf Tryz.f30)=true:=by kernel_rfl
def t35:FT where
 keep:=[]
 kb:=fun
  |_=>[]
 sd:=fun
  |_=>[]
theorem f35_at:Tryz.prog.funcs[35]? = some Tryz.f35:=by kernel_rfl
theorem f35_body:Tryz.f35.body.isSome=true:=by kernel_rfl
theorem f35_tab:tabOk t35.sd t35.sx (bodyOf Tryz.f35)=true:=by kernel_rfl
def t71:FT where
 keep:=[]
 kb:=fun
  |_=>[]
 sd:=fun
  |_=>[]
theorem f71_at:Tryz.prog.funcs[71]? = some Tryz.f71:=by kernel_rfl
theorem f71_body:Tryz.f71.body.isSome=true:=by kernel_rfl
theorem f71_tab:tabOk t71.sd t71.sx (bodyOf Tryz.f71)=true:=by kernel_rfl
def t33:FT where
 keep:=[]
 kb:=fun
  |0=>[9,8,7,1]
  |_=>[]
 sd:=fun
  |_=>[]
theorem f33_at:Tryz.prog.funcs[33]? = some Tryz.f33:=by kernel_rfl
theorem f33_body:Tryz.f33.body.isSome=true:=by kernel_rfl
theorem f33_tab:tabOk t33.sd t33.sx (bodyOf Tryz.f33)=true:=by kernel_rfl
theorem f33_loop0:isLoop1 (subs 0 (bodyOf Tryz.f33))=true:=by kernel_rfl
theorem f33_tab0:tabOk t33.sd t33.sx (lb Tryz.f33 0)=true:=by kernel_rfl
def t34:FT where
 keep:=[]
 kb:=fun
  |0=>[9,8,7,1]
  |_=>[]
 sd:=fun
  |_=>[]
theorem f34_at:Tryz.prog.funcs[34]? = some Tryz.f34:=by kernel_rfl
theorem f34_body:Tryz.f34.body.isSome=true:=by kernel_rfl
theorem f34_tab:tabOk t34.sd t34.sx (bodyOf Tryz.f34)=true:=by kernel_rfl
theorem f34_loop0:isLoop1 (subs 0 (bodyOf Tryz.f34))=true:=by kernel_rfl
theorem f34_tab0:tabOk t34.sd t34.sx (lb Tryz.f34 0)=true:=by kernel_rfl
def t36:FT where
 keep:=[]
 kb:=fun
  |0=>[9,8,7,1]
  |_=>[]
 sd:=fun
  |_=>[]
theorem f36_at:Tryz.prog.funcs[36]? = some Tryz.f36:=by kernel_rfl
theorem f36_body:Tryz.f36.body.isSome=true:=by kernel_rfl
theorem f36_tab:tabOk t36.sd t36.sx (bodyOf Tryz.f36)=true:=by kernel_rfl
theorem f36_loop0:isLoop1 (subs 0 (bodyOf Tryz.f36))=true:=by kernel_rfl
theorem f36_tab0:tabOk t36.sd t36.sx (lb Tryz.f36 0)=true:=by kernel_rfl
def t8:FT where
 keep:=[]
 kb:=fun
  |0=>[3,1]
  |2=>[4,1]
  |_=>[]
 sd:=fun
  |1=>[(0,true),(1,true),(2,true),(3,true),(4,true),(5,true),(6,true),(7,true),(8,true),(9,true),(10,true),(11,true),(12,true),(13,true),(14,true),(15,true),(16,true),(17,true),(18,true),(19,true),(20,false),(21,true),(22,true)]
  |_=>[]
theorem f8_at:Tryz.prog.funcs[8]? = some Tryz.f8:=by kernel_rfl
theorem f8_body:Tryz.f8.body.isSome=true:=by kernel_rfl
theorem f8_tab:tabOk t8.sd t8.sx (bodyOf Tryz.f8)=true:=by kernel_rfl
theorem f8_loop0:isLoop1 (subs 0 (bodyOf Tryz.f8))=true:=by kernel_rfl
theorem f8_tab0:tabOk t8.sd t8.sx (lb Tryz.f8 0)=true:=by kernel_rfl
theorem f8_loop2:isLoop1 (subs 2 (bodyOf Tryz.f8))=true:=by kernel_rfl
theorem f8_tab2:tabOk t8.sd t8.sx (lb Tryz.f8 2)=true:=by kernel_rfl
def t25:FT where
 keep:=[]
 kb:=fun
  |_=>[]
 sd:=fun
  |_=>[]
theorem f25_at:Tryz.prog.funcs[25]? = some Tryz.f25:=by kernel_rfl
theorem f25_body:Tryz.f25.body.isSome=true:=by kernel_rfl
theorem f25_tab:tabOk t25.sd t25.sx (bodyOf Tryz.f25)=true:=by kernel_rfl
def t26:FT where
 keep:=[]
 kb:=fun
  |0=>[3,0]
  |_=>[]
 sd:=fun
  |_=>[]
theorem f26_at:Tryz.prog.funcs[26]? = some Tryz.f26:=by kernel_rfl
theorem f26_body:Tryz.f26.body.isSome=true:=by kernel_rfl
theorem f26_tab:tabOk t26.sd t26.sx (bodyOf Tryz.f26)=true:=by kernel_rfl
theorem f26_loop0:isLoop1 (subs 0 (bodyOf Tryz.f26))=true:=by kernel_rfl
theorem f26_tab0:tabOk t26.sd t26.sx (lb Tryz.f26 0)=true:=by kernel_rfl
def t68:FT where
 keep:=[]
 kb:=fun
  |0=>[3,0]
  |_=>[]
 sd:=fun
  |_=>[]
theorem f68_at:Tryz.prog.funcs[68]? = some Tryz.f68:=by kernel_rfl
theorem f68_body:Tryz.f68.body.isSome=true:=by kernel_rfl
theorem f68_tab:tabOk t68.sd t68.sx (bodyOf Tryz.f68)=true:=by kernel_rfl
theorem f68_loop0:isLoop1 (subs 0 (bodyOf Tryz.f68))=true:=by kernel_rfl
theorem f68_tab0:tabOk t68.sd t68.sx (lb Tryz.f68 0)=true:=by kernel_rfl
def t69:FT where
 keep:=[]
 kb:=fun
  |_=>[]
 sd:=fun
  |_=>[]
theorem f69_at:Tryz.prog.funcs[69]? = some Tryz.f69:=by kernel_rfl
theorem f69_body:Tryz.f69.body.isSome=true:=by kernel_rfl
theorem f69_tab:tabOk t69.sd t69.sx (bodyOf Tryz.f69)=true:=by kernel_rfl
def t63:FT where
 keep:=[]
 kb:=fun
  |_=>[]
 sd:=fun
  |_=>[]
theorem f63_at:Tryz.prog.funcs[63]? = some Tryz.f63:=by kernel_rfl
theorem f63_body:Tryz.f63.body.isSome=true:=by kernel_rfl
theorem f63_tab:tabOk t63.sd t63.sx (bodyOf Tryz.f63)=true:=by kernel_rfl
def t99:FT where
 keep:=[]
 kb:=fun
  |_=>[]
 sd:=fun
  |_=>[]
theorem f99_at:Tryz.prog.funcs[99]? = some Tryz.f99:=by kernel_rfl
theorem f99_body:Tryz.f99.body.isSome=true:=by kernel_rfl
theorem f99_tab:tabOk t99.sd t99.sx (bodyOf Tryz.f99)=true:=by kernel_rfl
def t107:FT where
 keep:=[]
 kb:=fun
  |0=>[9,6,0,1,7,8]
  |_=>[]
 sd:=fun
  |_=>[]
theorem f107_at:Tryz.prog.funcs[107]? = some Tryz.f107:=by kernel_rfl
theorem f107_body:Tryz.f107.body.isSome=true:=by kernel_rfl
theorem f107_tab:tabOk t107.sd t107.sx (bodyOf Tryz.f107)=true:=by kernel_rfl
theorem f107_loop0:isLoop1 (subs 0 (bodyOf Tryz.f107))=true:=by kernel_rfl
theorem f107_tab0:tabOk t107.sd t107.sx (lb Tryz.f107 0)=true:=by kernel_rfl
def t37:FT where
 keep:=[]
 kb:=fun
  |_=>[]
 sd:=fun
  |_=>[]
theorem f37_at:Tryz.prog.funcs[37]? = some Tryz.f37:=by kernel_rfl
theorem f37_body:Tryz.f37.body.isSome=true:=by kernel_rfl
theorem f37_tab:tabOk t37.sd t37.sx (bodyOf Tryz.f37)=true:=by kernel_rfl
def t77:FT where
 keep:=[]
 kb:=fun
  |_=>[]
 sd:=fun
  |_=>[]
theorem f77_at:Tryz.prog.funcs[77]? = some Tryz.f77:=by kernel_rfl
theorem f77_body:Tryz.f77.body.isSome=true:=by kernel_rfl
theorem f77_tab:tabOk t77.sd t77.sx (bodyOf Tryz.f77)=true:=by kernel_rfl
def t118:FT where
 keep:=[]
 kb:=fun
  |_=>[]
 sd:=fun
  |_=>[]
theorem f118_at:Tryz.prog.funcs[118]? = some Tryz.f118:=by kernel_rfl
theorem f118_body:Tryz.f118.body.isSome=true:=by kernel_rfl
theorem f118_tab:tabOk t118.sd t118.sx (bodyOf Tryz.f118)=true:=by kernel_rfl
def t153:FT where
 keep:=[]
 kb:=fun
  |1=>[61,60,59,0,6,5,3,4]
  |_=>[]
 sd:=fun
  |3=>[(0,true),(1,true),(4,true),(5,true),(6,true),(7,true),(8,true),(2,false),(3,false),(9,false),(10,false),(11,false),(12,false)]
  |20=>[(0,true),(3,true),(4,true),(5,true),(6,true),(7,true),(1,false),(2,false),(8,false),(9,false),(10,false),(11,false)]
  |_=>[]
 sx:=fun
  |5=>some (.look 2 (.look 3 (.look 4 (.look 5 (.look 6 (.look 10 (.look 11 (.look 12 (.look 13 (.look 14 (.look 18 (.look 19 (.look 20 (.look 21 (.look 22 (.eff (.cons 0 (.eff (.cons 1 (.eff (.cons 7 (.eff (.cons 8 (.eff (.cons 9 (.eff (.cons 15 (.eff (.cons 16 (.eff (.cons 17 (.eff (.cons 23 (.eff (.cons 24 (.eff (.cons 25 (.eff (.cons 26 (.done) (.nil))) (.nil))) (.nil))) (.nil))) (.nil))) (.nil))) (.cons 16 (.eff (.cons 15 (.eff (.cons 17 (.eff (.cons 23 (.eff (.cons 24 (.eff (.cons 25 (.eff (.cons 26 (.done) (.nil))) (.nil))) (.nil))) (.nil))) (.nil))) (.nil))) (.nil)))) (.cons 16 (.eff (.cons 9 (.eff (.cons 15 (.eff (.cons 17 (.eff (.cons 23 (.eff (.cons 24 (.eff (.cons 25 (.eff (.cons 26 (.done) (.nil))) (.nil))) (.nil))) (.nil))) (.nil))) (.nil))) (.nil))) (.nil)))) (.cons 16 (.eff (.cons 8 (.eff (.cons 9 (.eff (.cons 15 (.eff (.cons 17 (.eff (.cons 23 (.eff (.cons 24 (.eff (.cons 25 (.eff (.cons 26 (.done) (.nil))) (.nil))) (.nil))) (.nil))) (.nil))) (.nil))) (.nil))) (.nil))) (.nil)))) (.cons 8 (.eff (.cons 7 (.eff (.cons 9 (.eff (.cons 15 (.eff (.cons 16 (.eff (.cons 17 (.eff (.cons 23 (.eff (.cons 24 (.eff (.cons 25 (.eff (.cons 26 (.done) (.nil))) (.nil))) (.nil))) (.nil))) (.nil))) (.nil))) (.cons 16 (.eff (.cons 15 (.eff (.cons 17 (.eff (.cons 23 (.eff (.cons 24 (.eff (.cons 25 (.eff (.cons 26 (.done) (.nil))) (.nil))) (.nil))) (.nil))) (.nil))) (.nil))) (.nil)))) (.cons 16 (.eff (.cons 9 (.eff (.cons 15 (.eff (.cons 17 (.eff (.cons 23 (.eff (.cons 24 (.eff (.cons 25 (.eff (.cons 26 (.done) (.nil))) (.nil))) (.nil))) (.nil))) (.nil))) (.nil))) (.nil))) (.nil)))) (.cons 16 (.eff (.cons 7 (.eff (.cons 9 (.eff (.cons 15 (.eff (.cons 17 (.eff (.cons 23 (.eff (.cons 24 (.eff (.cons 25 (.eff (.cons 26 (.done) (.nil))) (.nil))) (.nil))) (.nil))) (.nil))) (.nil))) (.nil))) (.nil))) (.nil)))) (.cons 16 (.eff (.cons 7 (.eff (.cons 8 (.eff (.cons 9 (.eff (.cons 15 (.eff (.cons 17 (.eff (.cons 23 (.eff (.cons 24 (.eff (.cons 25 (.eff (.cons 26 (.done) (.nil))) (.nil))) (.nil))) (.nil))) (.nil))) (.nil))) (.nil))) (.nil))) (.cons 8 (.eff (.cons 7 (.eff (.cons 9 (.eff (.cons 15 (.eff (.cons 17 (.eff (.cons 23 (.eff (.cons 24 (.eff (.cons 25 (.eff (.cons 26 (.done) (.nil))) (.nil))) (.nil))) (.nil))) (.nil))) (.nil))) (.nil))) (.nil))) (.nil)))) (.nil))))) (.cons 8 (.eff (.cons 1 (.eff (.cons 7 (.eff (.cons 9 (.eff (.cons 15 (.eff (.cons 16 (.eff (.cons 17 (.eff (.cons 23 (.eff (.cons 24 (.eff (.cons 25 (.eff (.cons 26 (.done) (.nil))) (.nil))) (.nil))) (.nil))) (.nil))) (.nil))) (.cons 16 (.eff (.cons 15 (.eff (.cons 17 (.eff (.cons 23 (.eff (.cons 24 (.eff (.cons 25 (.eff (.cons 26 (.done) (.nil))) (.nil))) (.nil))) (.nil))) (.nil))) (.nil))) (.nil)))) (.cons 16 (.eff (.cons 9 (.eff (.cons 15 (.eff (.cons 17 (.eff (.cons 23 (.eff (.cons 24 (.eff (.cons 25 (.eff (.cons 26 (.done) (.nil))) (.nil))) (.nil))) (.nil))) (.nil))) (.nil))) (.nil))) (.nil)))) (.cons 16 (.eff (.cons 7 (.eff (.cons 9 (.eff (.cons 15 (.eff (.cons 17 (.eff (.cons 23 (.eff (.cons 24 (.eff (.cons 25 (.eff (.cons 26 (.done) (.nil))) (.nil))) (.nil))) (.nil))) (.nil))) (.nil))) (.nil))) (.nil))) (.nil)))) (.cons 16 (.eff (.cons 1 (.eff (.cons 7 (.eff (.cons 9 (.eff (.cons 15 (.eff (.cons 17 (.eff (.cons 23 (.eff (.cons 24 (.eff (.cons 25 (.eff (.cons 26 (.done) (.nil))) (.nil))) (.nil))) (.nil))) (.nil))) (.nil))) (.nil))) (.nil))) (.nil))) (.nil)))) (.cons 16 (.eff (.cons 1 (.eff (.cons 7 (.eff (.cons 8 (.eff (.cons 9 (.eff (.cons 15 (.eff (.cons 17 (.eff (.cons 23 (.eff (.cons 24 (.eff (.cons 25 (.eff (.cons 26 (.done) (.nil))) (.nil))) (.nil))) (.nil))) (.nil))) (.nil))) (.nil))) (.nil))) (.cons 8 (.eff (.cons 7 (.eff (.cons 9 (.eff (.cons 15 (.eff (.cons 17 (.eff (.cons 23 (.eff (.cons 24 (.eff (.cons 25 (.eff (.cons 26 (.done) (.nil))) (.nil))) (.nil))) (.nil))) (.nil))) (.nil))) (.nil))) (.nil))) (.nil)))) (.cons 8 (.eff (.cons 1 (.eff (.cons 7 (.eff (.cons 9 (.eff (.cons 15 (.eff (.cons 17 (.eff (.cons 23 (.eff (.cons 24 (.eff (.cons 25 (.eff (.cons 26 (.done) (.nil))) (.nil))) (.nil))) (.nil))) (.nil))) (.nil))) (.nil))) (.nil))) (.nil))) (.nil)))) (.nil))))) (.cons 8 (.eff (.cons 0 (.eff (.cons 1 (.eff (.cons 7 (.eff (.cons 9 (.eff (.cons 15 (.eff (.cons 16 (.eff (.cons 17 (.eff (.cons 23 (.eff (.cons 24 (.eff (.cons 25 (.eff (.cons 26 (.done) (.nil))) (.nil))) (.nil))) (.nil))) (.nil))) (.nil))) (.cons 16 (.eff (.cons 15 (.eff (.cons 17 (.eff (.cons 23 (.eff (.cons 24 (.eff (.cons 25 (.eff (.cons 26 (.done) (.nil))) (.nil))) (.nil))) (.nil))) (.nil))) (.nil))) (.nil)))) (.cons 16 (.eff (.cons 9 (.eff (.cons 15 (.eff (.cons 17 (.eff (.cons 23 (.eff (.cons 24 (.eff (.cons 25 (.eff (.cons 26 (.done) (.nil))) (.nil))) (.nil))) (.nil))) (.nil))) (.nil))) (.nil))) (.nil)))) (.cons 16 (.eff (.cons 7 (.eff (.cons 9 (.eff (.cons 15 (.eff (.cons 17 (.eff (.cons 23 (.eff (.cons 24 (.eff (.cons 25 (.eff (.cons 26 (.done) (.nil))) (.nil))) (.nil))) (.nil))) (.nil))) (.nil))) (.nil))) (.nil))) (.nil)))) (.cons 16 (.eff (.cons 1 (.eff (.cons 7 (.eff (.cons 9 (.eff (.cons 15 (.eff (.cons 17 (.eff (.cons 23 (.eff (.cons 24 (.eff (.cons 25 (.eff (.cons 26 (.done) (.nil))) (.nil))) (.nil))) (.nil))) (.nil))) (.nil))) (.nil))) (.nil))) (.nil))) (.nil)))) (.cons 16 (.eff (.cons 0 (.eff (.cons 1 (.eff (.cons 7 (.eff (.cons 9 (.eff (.cons 15 (.eff (.cons 17 (.eff (.cons 23 (.eff (.cons 24 (.eff (.cons 25 (.eff (.cons 26 (.done) (.nil))) (.nil))) (.nil))) (.nil))) (.nil))) (.nil))) (.nil))) (.nil))) (.nil))) (.nil))) (.nil)))) (.cons 16 (.eff (.cons 0 (.eff (.cons 1 (.eff (.cons 7 (.eff (.cons 8 (.eff (.cons 9 (.eff (.cons 15 (.eff (.cons 17 (.eff (.cons 23 (.eff (.cons 24 (.eff (.cons 25 (.eff (.cons 26 (.done) (.nil))) (.nil))) (.nil))) (.nil))) (.nil))) (.nil))) (.nil))) (.nil))) (.cons 8 (.eff (.cons 7 (.eff (.cons 9 (.eff (.cons 15 (.eff (.cons 17 (.eff (.cons 23 (.eff (.cons 24 (.eff (.cons 25 (.eff (.cons 26 (.done) (.nil))) (.nil))) (.nil))) (.nil))) (.nil))) (.nil))) (.nil))) (.nil))) (.nil)))) (.cons 8 (.eff (.cons 1 (.eff (.cons 7 (.eff (.cons 9 (.eff (.cons 15 (.eff (.cons 17 (.eff (.cons 23 (.eff (.cons 24 (.eff (.cons 25 (.eff (.cons 26 (.done) (.nil))) (.nil))) (.nil))) (.nil))) (.nil))) (.nil))) (.nil))) (.nil))) (.nil))) (.nil)))) (.cons 8 (.eff (.cons 0 (.eff (.cons 1 (.eff (.cons 7 (.eff (.cons 9 (.eff (.cons 15 (.eff (.cons 17 (.eff (.cons 23 (.eff (.cons 24 (.eff (.cons 25 (.eff (.cons 26 (.done) (.nil))) (.nil))) (.nil))) (.nil))) (.nil))) (.nil))) (.nil))) (.nil))) (.nil))) (.nil))) (.nil)))) (.nil))))))))))))))))))),[4])
  |15=>some (.look 0 (.look 1 (.look 2 (.look 6 (.look 7 (.look 8 (.eff (.cons 3 (.eff (.cons 4 (.eff (.cons 5 (.eff (.cons 9 (.eff (.cons 10 (.eff (.cons 11 (.eff (.cons 12 (.eff (.cons 13 (.done) (.nil))) (.nil))) (.cons 12 (.eff (.cons 11 (.eff (.cons 13 (.done) (.nil))) (.nil))) (.nil)))) (.cons 12 (.eff (.cons 10 (.eff (.cons 11 (.eff (.cons 13 (.done) (.nil))) (.nil))) (.nil))) (.nil)))) (.cons 12 (.eff (.cons 9 (.eff (.cons 10 (.eff (.cons 11 (.eff (.cons 13 (.done) (.nil))) (.nil))) (.nil))) (.nil))) (.nil)))) (.cons 12 (.eff (.cons 5 (.eff (.cons 9 (.eff (.cons 10 (.eff (.cons 11 (.eff (.cons 13 (.done) (.nil))) (.nil))) (.nil))) (.nil))) (.nil))) (.nil)))) (.cons 12 (.eff (.cons 4 (.eff (.cons 5 (.eff (.cons 9 (.eff (.cons 10 (.eff (.cons 11 (.eff (.cons 13 (.done) (.nil))) (.nil))) (.nil))) (.nil))) (.nil))) (.nil))) (.nil)))) (.cons 12 (.eff (.cons 3 (.eff (.cons 4 (.eff (.cons 5 (.eff (.cons 9 (.eff (.cons 10 (.eff (.cons 11 (.eff (.cons 13 (.done) (.nil))) (.nil))) (.nil))) (.nil))) (.nil))) (.nil))) (.nil))) (.nil))))))))),[7,6,9,61,60,59,0,5,3,4])
  |_=>none
theorem f153_at:Tryz.prog.funcs[153]? = some Tryz.f153:=by kernel_rfl
theorem f153_body:Tryz.f153.body.isSome=true:=by kernel_rfl
theorem f153_tab:tabOk t153.sd t153.sx (bodyOf Tryz.f153)=true:=by kernel_rfl
theorem f153_loop1:isLoop1 (subs 1 (bodyOf Tryz.f153))=true:=by kernel_rfl
theorem f153_tab1:tabOk t153.sd t153.sx (lb Tryz.f153 1)=true:=by kernel_rfl
def t116:FT where
 keep:=[]
 kb:=fun
  |_=>[]
 sd:=fun
  |_=>[]
 sx:=fun
  |3=>some (.look 0 (.look 1 (.look 2 (.look 4 (.look 7 (.look 8 (.look 9 (.look 10 (.eff (.cons 3 (.eff (.cons 5 (.eff (.cons 6 (.eff (.cons 11 (.eff (.cons 12 (.eff (.cons 13 (.eff (.cons 14 (.done) (.nil))) (.nil))) (.nil))) (.nil))) (.nil))) (.nil))) (.cons 5 (.eff (.cons 3 (.eff (.cons 6 (.eff (.cons 11 (.eff (.cons 12 (.eff (.cons 13 (.eff (.cons 14 (.done) (.nil))) (.nil))) (.nil))) (.nil))) (.nil))) (.nil))) (.nil))))))))))),[6])
  |_=>none
theorem f116_at:Tryz.prog.funcs[116]? = some Tryz.f116:=by kernel_rfl
theorem f116_body:Tryz.f116.body.isSome=true:=by kernel_rfl
theorem f116_tab:tabOk t116.sd t116.sx (bodyOf Tryz.f116)=true:=by kernel_rfl
def t150:FT where
 keep:=[]
 kb:=fun
  |_=>[]
 sd:=fun
  |7=>[(0,true),(1,true),(2,true),(3,true),(4,true),(5,false),(6,false)]
  |_=>[]
theorem f150_at:Tryz.prog.funcs[150]? = some Tryz.f150:=by kernel_rfl
theorem f150_body:Tryz.f150.body.isSome=true:=by kernel_rfl
theorem f150_tab:tabOk t150.sd t150.sx (bodyOf Tryz.f150)=true:=by kernel_rfl
def t119:FT where
 keep:=[]
 kb:=fun
  |_=>[]
 sd:=fun
  |3=>[(0,true),(1,true),(3,true),(4,true),(5,true),(6,true),(7,true),(2,false),(8,false),(9,false),(10,false),(11,false)]
  |4=>[(0,true),(1,true),(3,true),(4,true),(5,true),(6,true),(7,true),(2,false),(8,false),(9,false),(10,false),(11,false)]
  |_=>[]
theorem f119_at:Tryz.prog.funcs[119]? = some Tryz.f119:=by kernel_rfl
theorem f119_body:Tryz.f119.body.isSome=true:=by kernel_rfl
theorem f119_tab:tabOk t119.sd t119.sx (bodyOf Tryz.f119)=true:=by kernel_rfl
def t151:FT where
 keep:=[]
 kb:=fun
  |1=>[41,40,39,5,0,4]
  |_=>[]
 sd:=fun
  |12=>[(0,true),(1,false),(2,false),(3,false),(4,false),(5,false)]
  |15=>[(0,true),(1,false),(2,false),(3,false),(4,false),(5,false)]
  |_=>[]
 sx:=fun
  |7=>some (.look 2 (.look 3 (.look 4 (.look 5 (.look 6 (.eff (.cons 0 (.eff (.cons 1 (.eff (.cons 7 (.eff (.cons 8 (.eff (.cons 9 (.eff (.cons 10 (.eff (.cons 11 (.eff (.cons 12 (.eff (.cons 13 (.done) (.nil))) (.nil))) (.cons 12 (.eff (.cons 11 (.eff (.cons 13 (.done) (.nil))) (.nil))) (.nil)))) (.cons 12 (.eff (.cons 10 (.eff (.cons 11 (.eff (.cons 13 (.done) (.nil))) (.nil))) (.nil))) (.nil)))) (.cons 12 (.eff (.cons 9 (.eff (.cons 10 (.eff (.cons 11 (.eff (.cons 13 (.done) (.nil))) (.nil))) (.nil))) (.nil))) (.nil)))) (.cons 12 (.eff (.cons 8 (.eff (.cons 9 (.eff (.cons 10 (.eff (.cons 11 (.eff (.cons 13 (.done) (.nil))) (.nil))) (.nil))) (.nil))) (.nil))) (.nil)))) (.cons 8 (.eff (.cons 7 (.eff (.cons 9 (.eff (.cons 10 (.eff (.cons 11 (.eff (.cons 12 (.eff (.cons 13 (.done) (.nil))) (.nil))) (.cons 12 (.eff (.cons 11 (.eff (.cons 13 (.done) (.nil))) (.nil))) (.nil)))) (.cons 12 (.eff (.cons 10 (.eff (.cons 11 (.eff (.cons 13 (.done) (.nil))) (.nil))) (.nil))) (.nil)))) (.cons 12 (.eff (.cons 9 (.eff (.cons 10 (.eff (.cons 11 (.eff (.cons 13 (.done) (.nil))) (.nil))) (.nil))) (.nil))) (.nil)))) (.cons 12 (.eff (.cons 7 (.eff (.cons 9 (.eff (.cons 10 (.eff (.cons 11 (.eff (.cons 13 (.done) (.nil))) (.nil))) (.nil))) (.nil))) (.nil))) (.nil)))) (.cons 12 (.eff (.cons 7 (.eff (.cons 8 (.eff (.cons 9 (.eff (.cons 10 (.eff (.cons 11 (.eff (.cons 13 (.done) (.nil))) (.nil))) (.nil))) (.nil))) (.nil))) (.cons 8 (.eff (.cons 7 (.eff (.cons 9 (.eff (.cons 10 (.eff (.cons 11 (.eff (.cons 13 (.done) (.nil))) (.nil))) (.nil))) (.nil))) (.nil))) (.nil)))) (.nil))))) (.cons 8 (.eff (.cons 1 (.eff (.cons 7 (.eff (.cons 9 (.eff (.cons 10 (.eff (.cons 11 (.eff (.cons 12 (.eff (.cons 13 (.done) (.nil))) (.nil))) (.cons 12 (.eff (.cons 11 (.eff (.cons 13 (.done) (.nil))) (.nil))) (.nil)))) (.cons 12 (.eff (.cons 10 (.eff (.cons 11 (.eff (.cons 13 (.done) (.nil))) (.nil))) (.nil))) (.nil)))) (.cons 12 (.eff (.cons 9 (.eff (.cons 10 (.eff (.cons 11 (.eff (.cons 13 (.done) (.nil))) (.nil))) (.nil))) (.nil))) (.nil)))) (.cons 12 (.eff (.cons 7 (.eff (.cons 9 (.eff (.cons 10 (.eff (.cons 11 (.eff (.cons 13 (.done) (.nil))) (.nil))) (.nil))) (.nil))) (.nil))) (.nil)))) (.cons 12 (.eff (.cons 1 (.eff (.cons 7 (.eff (.cons 9 (.eff (.cons 10 (.eff (.cons 11 (.eff (.cons 13 (.done) (.nil))) (.nil))) (.nil))) (.nil))) (.nil))) (.nil))) (.nil)))) (.cons 12 (.eff (.cons 1 (.eff (.cons 7 (.eff (.cons 8 (.eff (.cons 9 (.eff (.cons 10 (.eff (.cons 11 (.eff (.cons 13 (.done) (.nil))) (.nil))) (.nil))) (.nil))) (.nil))) (.cons 8 (.eff (.cons 7 (.eff (.cons 9 (.eff (.cons 10 (.eff (.cons 11 (.eff (.cons 13 (.done) (.nil))) (.nil))) (.nil))) (.nil))) (.nil))) (.nil)))) (.cons 8 (.eff (.cons 1 (.eff (.cons 7 (.eff (.cons 9 (.eff (.cons 10 (.eff (.cons 11 (.eff (.cons 13 (.done) (.nil))) (.nil))) (.nil))) (.nil))) (.nil))) (.nil))) (.nil)))) (.nil))))) (.cons 8 (.eff (.cons 0 (.eff (.cons 1 (.eff (.cons 7 (.eff (.cons 9 (.eff (.cons 10 (.eff (.cons 11 (.eff (.cons 12 (.eff (.cons 13 (.done) (.nil))) (.nil))) (.cons 12 (.eff (.cons 11 (.eff (.cons 13 (.done) (.nil))) (.nil))) (.nil)))) (.cons 12 (.eff (.cons 10 (.eff (.cons 11 (.eff (.cons 13 (.done) (.nil))) (.nil))) (.nil))) (.nil)))) (.cons 12 (.eff (.cons 9 (.eff (.cons 10 (.eff (.cons 11 (.eff (.cons 13 (.done) (.nil))) (.nil))) (.nil))) (.nil))) (.nil)))) (.cons 12 (.eff (.cons 7 (.eff (.cons 9 (.eff (.cons 10 (.eff (.cons 11 (.eff (.cons 13 (.done) (.nil))) (.nil))) (.nil))) (.nil))) (.nil))) (.nil)))) (.cons 12 (.eff (.cons 1 (.eff (.cons 7 (.eff (.cons 9 (.eff (.cons 10 (.eff (.cons 11 (.eff (.cons 13 (.done) (.nil))) (.nil))) (.nil))) (.nil))) (.nil))) (.nil))) (.nil)))) (.cons 12 (.eff (.cons 0 (.eff (.cons 1 (.eff (.cons 7 (.eff (.cons 9 (.eff (.cons 10 (.eff (.cons 11 (.eff (.cons 13 (.done) (.nil))) (.nil))) (.nil))) (.nil))) (.nil))) (.nil))) (.nil))) (.nil)))) (.cons 12 (.eff (.cons 0 (.eff (.cons 1 (.eff (.cons 7 (.eff (.cons 8 (.eff (.cons 9 (.eff (.cons 10 (.eff (.cons 11 (.eff (.cons 13 (.done) (.nil))) (.nil))) (.nil))) (.nil))) (.nil))) (.cons 8 (.eff (.cons 7 (.eff (.cons 9 (.eff (.cons 10 (.eff (.cons 11 (.eff (.cons 13 (.done) (.nil))) (.nil))) (.nil))) (.nil))) (.nil))) (.nil)))) (.cons 8 (.eff (.cons 1 (.eff (.cons 7 (.eff (.cons 9 (.eff (.cons 10 (.eff (.cons 11 (.eff (.cons 13 (.done) (.nil))) (.nil))) (.nil))) (.nil))) (.nil))) (.nil))) (.nil)))) (.cons 8 (.eff (.cons 0 (.eff (.cons 1 (.eff (.cons 7 (.eff (.cons 9 (.eff (.cons 10 (.eff (.cons 11 (.eff (.cons 13 (.done) (.nil))) (.nil))) (.nil))) (.nil))) (.nil))) (.nil))) (.nil))) (.nil)))) (.nil))))))))),[3,5,0,4])
  |13=>some (.look 0 (.look 1 (.look 2 (.look 4 (.look 5 (.look 10 (.look 11 (.look 12 (.eff (.cons 3 (.eff (.cons 6 (.look 7 (.eff (.cons 8 (.eff (.cons 9 (.eff (.cons 13 (.eff (.cons 14 (.eff (.cons 15 (.eff (.cons 16 (.done) (.nil))) (.nil))) (.nil))) (.nil))) (.nil))) (.nil)))) (.cons 8 (.eff (.cons 6 (.look 7 (.eff (.cons 9 (.eff (.cons 13 (.eff (.cons 14 (.eff (.cons 15 (.eff (.cons 16 (.done) (.nil))) (.nil))) (.nil))) (.nil))) (.nil)))) (.nil))) (.nil)))) (.cons 8 (.eff (.cons 3 (.eff (.cons 6 (.look 7 (.eff (.cons 9 (.eff (.cons 13 (.eff (.cons 14 (.eff (.cons 15 (.eff (.cons 16 (.done) (.nil))) (.nil))) (.nil))) (.nil))) (.nil)))) (.nil))) (.nil))) (.nil))))))))))),[41,40,39,5,0,4])
  |17=>some (.look 2 (.look 3 (.look 4 (.look 5 (.look 6 (.look 10 (.look 11 (.look 13 (.look 14 (.eff (.cons 0 (.eff (.cons 1 (.eff (.cons 7 (.eff (.cons 8 (.eff (.cons 9 (.eff (.cons 12 (.eff (.cons 15 (.look 16 (.eff (.cons 17 (.eff (.cons 18 (.eff (.cons 19 (.eff (.cons 20 (.eff (.cons 21 (.done) (.nil))) (.nil))) (.nil))) (.nil))) (.nil)))) (.cons 17 (.eff (.cons 15 (.look 16 (.eff (.cons 18 (.eff (.cons 19 (.eff (.cons 20 (.eff (.cons 21 (.done) (.nil))) (.nil))) (.nil))) (.nil)))) (.nil))) (.nil)))) (.cons 17 (.eff (.cons 12 (.eff (.cons 15 (.look 16 (.eff (.cons 18 (.eff (.cons 19 (.eff (.cons 20 (.eff (.cons 21 (.done) (.nil))) (.nil))) (.nil))) (.nil)))) (.nil))) (.nil))) (.nil)))) (.cons 17 (.eff (.cons 9 (.eff (.cons 12 (.eff (.cons 15 (.look 16 (.eff (.cons 18 (.eff (.cons 19 (.eff (.cons 20 (.eff (.cons 21 (.done) (.nil))) (.nil))) (.nil))) (.nil)))) (.nil))) (.nil))) (.nil))) (.nil)))) (.cons 17 (.eff (.cons 8 (.eff (.cons 9 (.eff (.cons 12 (.eff (.cons 15 (.look 16 (.eff (.cons 18 (.eff (.cons 19 (.eff (.cons 20 (.eff (.cons 21 (.done) (.nil))) (.nil))) (.nil))) (.nil)))) (.nil))) (.nil))) (.nil))) (.nil))) (.nil)))) (.cons 8 (.eff (.cons 7 (.eff (.cons 9 (.eff (.cons 12 (.eff (.cons 15 (.look 16 (.eff (.cons 17 (.eff (.cons 18 (.eff (.cons 19 (.eff (.cons 20 (.eff (.cons 21 (.done) (.nil))) (.nil))) (.nil))) (.nil))) (.nil)))) (.cons 17 (.eff (.cons 15 (.look 16 (.eff (.cons 18 (.eff (.cons 19 (.eff (.cons 20 (.eff (.cons 21 (.done) (.nil))) (.nil))) (.nil))) (.nil)))) (.nil))) (.nil)))) (.cons 17 (.eff (.cons 12 (.eff (.cons 15 (.look 16 (.eff (.cons 18 (.eff (.cons 19 (.eff (.cons 20 (.eff (.cons 21 (.done) (.nil))) (.nil))) (.nil))) (.nil)))) (.nil))) (.nil))) (.nil)))) (.cons 17 (.eff (.cons 9 (.eff (.cons 12 (.eff (.cons 15 (.look 16 (.eff (.cons 18 (.eff (.cons 19 (.eff (.cons 20 (.eff (.cons 21 (.done) (.nil))) (.nil))) (.nil))) (.nil)))) (.nil))) (.nil))) (.nil))) (.nil)))) (.cons 17 (.eff (.cons 7 (.eff (.cons 9 (.eff (.cons 12 (.eff (.cons 15 (.look 16 (.eff (.cons 18 (.eff (.cons 19 (.eff (.cons 20 (.eff (.cons 21 (.done) (.nil))) (.nil))) (.nil))) (.nil)))) (.nil))) (.nil))) (.nil))) (.nil))) (.nil)))) (.cons 17 (.eff (.cons 7 (.eff (.cons 8 (.eff (.cons 9 (.eff (.cons 12 (.eff (.cons 15 (.look 16 (.eff (.cons 18 (.eff (.cons 19 (.eff (.cons 20 (.eff (.cons 21 (.done) (.nil))) (.nil))) (.nil))) (.nil)))) (.nil))) (.nil))) (.nil))) (.nil))) (.cons 8 (.eff (.cons 7 (.eff (.cons 9 (.eff (.cons 12 (.eff (.cons 15 (.look 16 (.eff (.cons 18 (.eff (.cons 19 (.eff (.cons 20 (.eff (.cons 21 (.done) (.nil))) (.nil))) (.nil))) (.nil)))) (.nil))) (.nil))) (.nil))) (.nil))) (.nil)))) (.nil))))) (.cons 8 (.eff (.cons 1 (.eff (.cons 7 (.eff (.cons 9 (.eff (.cons 12 (.eff (.cons 15 (.look 16 (.eff (.cons 17 (.eff (.cons 18 (.eff (.cons 19 (.eff (.cons 20 (.eff (.cons 21 (.done) (.nil))) (.nil))) (.nil))) (.nil))) (.nil)))) (.cons 17 (.eff (.cons 15 (.look 16 (.eff (.cons 18 (.eff (.cons 19 (.eff (.cons 20 (.eff (.cons 21 (.done) (.nil))) (.nil))) (.nil))) (.nil)))) (.nil))) (.nil)))) (.cons 17 (.eff (.cons 12 (.eff (.cons 15 (.look 16 (.eff (.cons 18 (.eff (.cons 19 (.eff (.cons 20 (.eff (.cons 21 (.done) (.nil))) (.nil))) (.nil))) (.nil)))) (.nil))) (.nil))) (.nil)))) (.cons 17 (.eff (.cons 9 (.eff (.cons 12 (.eff (.cons 15 (.look 16 (.eff (.cons 18 (.eff (.cons 19 (.eff (.cons 20 (.eff (.cons 21 (.done) (.nil))) (.nil))) (.nil))) (.nil)))) (.nil))) (.nil))) (.nil))) (.nil)))) (.cons 17 (.eff (.cons 7 (.eff (.cons 9 (.eff (.cons 12 (.eff (.cons 15 (.look 16 (.eff (.cons 18 (.eff (.cons 19 (.eff (.cons 20 (.eff (.cons 21 (.done) (.nil))) (.nil))) (.nil))) (.nil)))) (.nil))) (.nil))) (.nil))) (.nil))) (.nil)))) (.cons 17 (.eff (.cons 1 (.eff (.cons 7 (.eff (.cons 9 (.eff (.cons 12 (.eff (.cons 15 (.look 16 (.eff (.cons 18 (.eff (.cons 19 (.eff (.cons 20 (.eff (.cons 21 (.done) (.nil))) (.nil))) (.nil))) (.nil)))) (.nil))) (.nil))) (.nil))) (.nil))) (.nil))) (.nil)))) (.cons 17 (.eff (.cons 1 (.eff (.cons 7 (.eff (.cons 8 (.eff (.cons 9 (.eff (.cons 12 (.eff (.cons 15 (.look 16 (.eff (.cons 18 (.eff (.cons 19 (.eff (.cons 20 (.eff (.cons 21 (.done) (.nil))) (.nil))) (.nil))) (.nil)))) (.nil))) (.nil))) (.nil))) (.nil))) (.cons 8 (.eff (.cons 7 (.eff (.cons 9 (.eff (.cons 12 (.eff (.cons 15 (.look 16 (.eff (.cons 18 (.eff (.cons 19 (.eff (.cons 20 (.eff (.cons 21 (.done) (.nil))) (.nil))) (.nil))) (.nil)))) (.nil))) (.nil))) (.nil))) (.nil))) (.nil)))) (.cons 8 (.eff (.cons 1 (.eff (.cons 7 (.eff (.cons 9 (.eff (.cons 12 (.eff (.cons 15 (.look 16 (.eff (.cons 18 (.eff (.cons 19 (.eff (.cons 20 (.eff (.cons 21 (.done) (.nil))) (.nil))) (.nil))) (.nil)))) (.nil))) (.nil))) (.nil))) (.nil))) (.nil))) (.nil)))) (.nil))))) (.cons 8 (.eff (.cons 0 (.eff (.cons 1 (.eff (.cons 7 (.eff (.cons 9 (.eff (.cons 12 (.eff (.cons 15 (.look 16 (.eff (.cons 17 (.eff (.cons 18 (.eff (.cons 19 (.eff (.cons 20 (.eff (.cons 21 (.done) (.nil))) (.nil))) (.nil))) (.nil))) (.nil)))) (.cons 17 (.eff (.cons 15 (.look 16 (.eff (.cons 18 (.eff (.cons 19 (.eff (.cons 20 (.eff (.cons 21 (.done) (.nil))) (.nil))) (.nil))) (.nil)))) (.nil))) (.nil)))) (.cons 17 (.eff (.cons 12 (.eff (.cons 15 (.look 16 (.eff (.cons 18 (.eff (.cons 19 (.eff (.cons 20 (.eff (.cons 21 (.done) (.nil))) (.nil))) (.nil))) (.nil)))) (.nil))) (.nil))) (.nil)))) (.cons 17 (.eff (.cons 9 (.eff (.cons 12 (.eff (.cons 15 (.look 16 (.eff (.cons 18 (.eff (.cons 19 (.eff (.cons 20 (.eff (.cons 21 (.done) (.nil))) (.nil))) (.nil))) (.nil)))) (.nil))) (.nil))) (.nil))) (.nil)))) (.cons 17 (.eff (.cons 7 (.eff (.cons 9 (.eff (.cons 12 (.eff (.cons 15 (.look 16 (.eff (.cons 18 (.eff (.cons 19 (.eff (.cons 20 (.eff (.cons 21 (.done) (.nil))) (.nil))) (.nil))) (.nil)))) (.nil))) (.nil))) (.nil))) (.nil))) (.nil)))) (.cons 17 (.eff (.cons 1 (.eff (.cons 7 (.eff (.cons 9 (.eff (.cons 12 (.eff (.cons 15 (.look 16 (.eff (.cons 18 (.eff (.cons 19 (.eff (.cons 20 (.eff (.cons 21 (.done) (.nil))) (.nil))) (.nil))) (.nil)))) (.nil))) (.nil))) (.nil))) (.nil))) (.nil))) (.nil)))) (.cons 17 (.eff (.cons 0 (.eff (.cons 1 (.eff (.cons 7 (.eff (.cons 9 (.eff (.cons 12 (.eff (.cons 15 (.look 16 (.eff (.cons 18 (.eff (.cons 19 (.eff (.cons 20 (.eff (.cons 21 (.done) (.nil))) (.nil))) (.nil))) (.nil)))) (.nil))) (.nil))) (.nil))) (.nil))) (.nil))) (.nil))) (.nil)))) (.cons 17 (.eff (.cons 0 (.eff (.cons 1 (.eff (.cons 7 (.eff (.cons 8 (.eff (.cons 9 (.eff (.cons 12 (.eff (.cons 15 (.look 16 (.eff (.cons 18 (.eff (.cons 19 (.eff (.cons 20 (.eff (.cons 21 (.done) (.nil))) (.nil))) (.nil))) (.nil)))) (.nil))) (.nil))) (.nil))) (.nil))) (.cons 8 (.eff (.cons 7 (.eff (.cons 9 (.eff (.cons 12 (.eff (.cons 15 (.look 16 (.eff (.cons 18 (.eff (.cons 19 (.eff (.cons 20 (.eff (.cons 21 (.done) (.nil))) (.nil))) (.nil))) (.nil)))) (.nil))) (.nil))) (.nil))) (.nil))) (.nil)))) (.cons 8 (.eff (.cons 1 (.eff (.cons 7 (.eff (.cons 9 (.eff (.cons 12 (.eff (.cons 15 (.look 16 (.eff (.cons 18 (.eff (.cons 19 (.eff (.cons 20 (.eff (.cons 21 (.done) (.nil))) (.nil))) (.nil))) (.nil)))) (.nil))) (.nil))) (.nil))) (.nil))) (.nil))) (.nil)))) (.cons 8 (.eff (.cons 0 (.eff (.cons 1 (.eff (.cons 7 (.eff (.cons 9 (.eff (.cons 12 (.eff (.cons 15 (.look 16 (.eff (.cons 18 (.eff (.cons 19 (.eff (.cons 20 (.eff (.cons 21 (.done) (.nil))) (.nil))) (.nil))) (.nil)))) (.nil))) (.nil))) (.nil))) (.nil))) (.nil))) (.nil))) (.nil)))) (.nil))))))))))))),[4])
  |_=>none
theorem f151_at:Tryz.prog.funcs[151]? = some Tryz.f151:=by kernel_rfl
theorem f151_body:Tryz.f151.body.isSome=true:=by kernel_rfl
theorem f151_tab:tabOk t151.sd t151.sx (bodyOf Tryz.f151)=true:=by kernel_rfl
theorem f151_loop1:isLoop1 (subs 1 (bodyOf Tryz.f151))=true:=by kernel_rfl
theorem f151_tab1:tabOk t151.sd t151.sx (lb Tryz.f151 1)=true:=by kernel_rfl
def t76:FT where
 keep:=[]
 kb:=fun
  |_=>[]
 sd:=fun
  |_=>[]
theorem f76_at:Tryz.prog.funcs[76]? = some Tryz.f76:=by kernel_rfl
theorem f76_body:Tryz.f76.body.isSome=true:=by kernel_rfl
theorem f76_tab:tabOk t76.sd t76.sx (bodyOf Tryz.f76)=true:=by kernel_rfl
def t154:FT where
 keep:=[]
 kb:=fun
  |_=>[]
 sd:=fun
  |_=>[]
theorem f154_at:Tryz.prog.funcs[154]? = some Tryz.f154:=by kernel_rfl
theorem f154_body:Tryz.f154.body.isSome=true:=by kernel_rfl
theorem f154_tab:tabOk t154.sd t154.sx (bodyOf Tryz.f154)=true:=by kernel_rfl
def t78:FT where
 keep:=[]
 kb:=fun
  |_=>[]
 sd:=fun
  |_=>[]
theorem f78_at:Tryz.prog.funcs[78]? = some Tryz.f78:=by kernel_rfl
theorem f78_body:Tryz.f78.body.isSome=true:=by kernel_rfl
theorem f78_tab:tabOk t78.sd t78.sx (bodyOf Tryz.f78)=true:=by kernel_rfl
def t11:FT where
 keep:=[]
 kb:=fun
  |_=>[]
 sd:=fun
  |_=>[]
theorem f11_at:Tryz.prog.funcs[11]? = some Tryz.f11:=by kernel_rfl
theorem f11_body:Tryz.f11.body.isSome=true:=by kernel_rfl
theorem f11_tab:tabOk t11.sd t11.sx (bodyOf Tryz.f11)=true:=by kernel_rfl
def t38:FT where
 keep:=[]
 kb:=fun
  |_=>[]
 sd:=fun
  |2=>[(0,true),(1,true),(2,true),(3,true),(4,true),(5,true),(6,true),(7,true),(8,true)]
  |_=>[]
theorem f38_at:Tryz.prog.funcs[38]? = some Tryz.f38:=by kernel_rfl
theorem f38_body:Tryz.f38.body.isSome=true:=by kernel_rfl
theorem f38_tab:tabOk t38.sd t38.sx (bodyOf Tryz.f38)=true:=by kernel_rfl
def t79:FT where
 keep:=[]
 kb:=fun
  |1=>[7,4,0]
  |_=>[]
 sd:=fun
  |_=>[]
theorem f79_at:Tryz.prog.funcs[79]? = some Tryz.f79:=by kernel_rfl
theorem f79_body:Tryz.f79.body.isSome=true:=by kernel_rfl
theorem f79_tab:tabOk t79.sd t79.sx (bodyOf Tryz.f79)=true:=by kernel_rfl
theorem f79_loop1:isLoop1 (subs 1 (bodyOf Tryz.f79))=true:=by kernel_rfl
theorem f79_tab1:tabOk t79.sd t79.sx (lb Tryz.f79 1)=true:=by kernel_rfl
def t121:FT where
 keep:=[]
 kb:=fun
  |_=>[]
 sd:=fun
  |_=>[]
theorem f121_at:Tryz.prog.funcs[121]? = some Tryz.f121:=by kernel_rfl
theorem f121_body:Tryz.f121.body.isSome=true:=by kernel_rfl
theorem f121_tab:tabOk t121.sd t121.sx (bodyOf Tryz.f121)=true:=by kernel_rfl
def t122:FT where
 keep:=[]
 kb:=fun
  |_=>[]
 sd:=fun
  |_=>[]
theorem f122_at:Tryz.prog.funcs[122]? = some Tryz.f122:=by kernel_rfl
theorem f122_body:Tryz.f122.body.isSome=true:=by kernel_rfl
theorem f122_tab:tabOk t122.sd t122.sx (bodyOf Tryz.f122)=true:=by kernel_rfl
def t123:FT where
 keep:=[]
 kb:=fun
  |_=>[]
 sd:=fun
  |_=>[]
theorem f123_at:Tryz.prog.funcs[123]? = some Tryz.f123:=by kernel_rfl
theorem f123_body:Tryz.f123.body.isSome=true:=by kernel_rfl
theorem f123_tab:tabOk t123.sd t123.sx (bodyOf Tryz.f123)=true:=by kernel_rfl
def t124:FT where
 keep:=[]
 kb:=fun
  |1=>[4,3,0]
  |_=>[]
 sd:=fun
  |_=>[]
theorem f124_at:Tryz.prog.funcs[124]? = some Tryz.f124:=by kernel_rfl
theorem f124_body:Tryz.f124.body.isSome=true:=by kernel_rfl
theorem f124_tab:tabOk t124.sd t124.sx (bodyOf Tryz.f124)=true:=by kernel_rfl
theorem f124_loop1:isLoop1 (subs 1 (bodyOf Tryz.f124))=true:=by kernel_rfl
theorem f124_tab1:tabOk t124.sd t124.sx (lb Tryz.f124 1)=true:=by kernel_rfl
def t156:FT where
 keep:=[]
 kb:=fun
  |_=>[]
 sd:=fun
  |_=>[]
theorem f156_at:Tryz.prog.funcs[156]? = some Tryz.f156:=by kernel_rfl
theorem f156_body:Tryz.f156.body.isSome=true:=by kernel_rfl
theorem f156_tab:tabOk t156.sd t156.sx (bodyOf Tryz.f156)=true:=by kernel_rfl
def t158:FT where
 keep:=[]
 kb:=fun
  |_=>[]
 sd:=fun
  |_=>[]
theorem f158_at:Tryz.prog.funcs[158]? = some Tryz.f158:=by kernel_rfl
theorem f158_body:Tryz.f158.body.isSome=true:=by kernel_rfl
theorem f158_tab:tabOk t158.sd t158.sx (bodyOf Tryz.f158)=true:=by kernel_rfl
def t160:FT where
 keep:=[]
 kb:=fun
  |_=>[]
 sd:=fun
  |0=>[(0,true),(1,true),(2,true),(3,true),(4,true),(5,true),(6,true),(7,true),(8,true),(9,true),(10,true)]
  |_=>[]
theorem f160_at:Tryz.prog.funcs[160]? = some Tryz.f160:=by kernel_rfl
theorem f160_body:Tryz.f160.body.isSome=true:=by kernel_rfl
theorem f160_tab:tabOk t160.sd t160.sx (bodyOf Tryz.f160)=true:=by kernel_rfl
def t147:FT where
 keep:=[]
 kb:=fun
  |0=>[9,8,7,4,3,2]
  |_=>[]
 sd:=fun
  |_=>[]
theorem f147_at:Tryz.prog.funcs[147]? = some Tryz.f147:=by kernel_rfl
theorem f147_body:Tryz.f147.body.isSome=true:=by kernel_rfl
theorem f147_tab:tabOk t147.sd t147.sx (bodyOf Tryz.f147)=true:=by kernel_rfl
theorem f147_loop0:isLoop1 (subs 0 (bodyOf Tryz.f147))=true:=by kernel_rfl
theorem f147_tab0:tabOk t147.sd t147.sx (lb Tryz.f147 0)=true:=by kernel_rfl
def t148:FT where
 keep:=[]
 kb:=fun
  |_=>[]
 sd:=fun
  |_=>[]
theorem f148_at:Tryz.prog.funcs[148]? = some Tryz.f148:=by kernel_rfl
theorem f148_body:Tryz.f148.body.isSome=true:=by kernel_rfl
theorem f148_tab:tabOk t148.sd t148.sx (bodyOf Tryz.f148)=true:=by kernel_rfl
def t117:FT where
 keep:=[]
 kb:=fun
  |_=>[]
 sd:=fun
  |_=>[]
theorem f117_at:Tryz.prog.funcs[117]? = some Tryz.f117:=by kernel_rfl
theorem f117_body:Tryz.f117.body.isSome=true:=by kernel_rfl
theorem f117_tab:tabOk t117.sd t117.sx (bodyOf Tryz.f117)=true:=by kernel_rfl
def t115:FT where
 keep:=[]
 kb:=fun
  |_=>[]
 sd:=fun
  |_=>[]
 sx:=fun
  |1=>some (.look 2 (.eff (.cons 0 (.eff (.cons 1 (.eff (.cons 3 (.eff (.cons 4 (.eff (.cons 5 (.eff (.cons 6 (.eff (.cons 7 (.eff (.cons 8 (.done) (.nil))) (.nil))) (.nil))) (.nil))) (.nil))) (.cons 4 (.eff (.cons 3 (.eff (.cons 5 (.eff (.cons 6 (.eff (.cons 7 (.eff (.cons 8 (.done) (.nil))) (.nil))) (.nil))) (.nil))) (.nil))) (.nil)))) (.cons 4 (.eff (.cons 1 (.eff (.cons 3 (.eff (.cons 5 (.eff (.cons 6 (.eff (.cons 7 (.eff (.cons 8 (.done) (.nil))) (.nil))) (.nil))) (.nil))) (.nil))) (.nil))) (.nil)))) (.cons 4 (.eff (.cons 0 (.eff (.cons 1 (.eff (.cons 3 (.eff (.cons 5 (.eff (.cons 6 (.eff (.cons 7 (.eff (.cons 8 (.done) (.nil))) (.nil))) (.nil))) (.nil))) (.nil))) (.nil))) (.nil))) (.nil)))),[2])
  |_=>none
theorem f115_at:Tryz.prog.funcs[115]? = some Tryz.f115:=by kernel_rfl
theorem f115_body:Tryz.f115.body.isSome=true:=by kernel_rfl
theorem f115_tab:tabOk t115.sd t115.sx (bodyOf Tryz.f115)=true:=by kernel_rfl
def t149:FT where
 keep:=[]
 kb:=fun
  |_=>[]
 sd:=fun
  |2=>[(0,true),(1,true),(2,true),(3,true),(4,true),(5,true),(6,true),(7,true),(8,true),(9,false),(10,false),(11,true)]
  |4=>[(0,true),(1,true),(2,true),(3,true),(4,true),(5,true),(6,true),(7,true),(8,true),(9,false),(10,false),(11,true)]
  |6=>[(0,true),(1,true),(2,true),(3,false),(4,false),(5,true)]
  |9=>[(0,true),(1,true),(2,true),(3,false),(4,false),(5,true)]
  |10=>[(0,true),(1,true),(2,true),(3,true),(4,true),(5,true),(6,true),(7,true),(8,true),(9,true),(10,true),(11,true),(12,true),(13,false),(14,false),(15,true)]
  |_=>[]
theorem f149_at:Tryz.prog.funcs[149]? = some Tryz.f149:=by kernel_rfl
theorem f149_body:Tryz.f149.body.isSome=true:=by kernel_rfl
theorem f149_tab:tabOk t149.sd t149.sx (bodyOf Tryz.f149)=true:=by kernel_rfl
def t152:FT where
 keep:=[]
 kb:=fun
  |_=>[]
 sd:=fun
  |_=>[]
theorem f152_at:Tryz.prog.funcs[152]? = some Tryz.f152:=by kernel_rfl
theorem f152_body:Tryz.f152.body.isSome=true:=by kernel_rfl
theorem f152_tab:tabOk t152.sd t152.sx (bodyOf Tryz.f152)=true:=by kernel_rfl
def t98:FT where
 keep:=[]
 kb:=fun
  |_=>[]
 sd:=fun
  |_=>[]
theorem f98_at:Tryz.prog.funcs[98]? = some Tryz.f98:=by kernel_rfl
theorem f98_body:Tryz.f98.body.isSome=true:=by kernel_rfl
theorem f98_tab:tabOk t98.sd t98.sx (bodyOf Tryz.f98)=true:=by kernel_rfl
def t188:FT where
 keep:=[]
 kb:=fun
  |_=>[]
 sd:=fun
  |_=>[]
theorem f188_at:Tryz.prog.funcs[188]? = some Tryz.f188:=by kernel_rfl
theorem f188_body:Tryz.f188.body.isSome=true:=by kernel_rfl
theorem f188_tab:tabOk t188.sd t188.sx (bodyOf Tryz.f188)=true:=by kernel_rfl
def t178:FT where
 keep:=[]
 kb:=fun
  |0=>[9,8,7,3]
  |_=>[]
 sd:=fun
  |5=>[(0,true),(1,true),(3,true),(4,true),(5,true),(6,true),(2,false),(7,false),(8,true),(9,true)]
  |_=>[]
theorem f178_at:Tryz.prog.funcs[178]? = some Tryz.f178:=by kernel_rfl
theorem f178_body:Tryz.f178.body.isSome=true:=by kernel_rfl
theorem f178_tab:tabOk t178.sd t178.sx (bodyOf Tryz.f178)=true:=by kernel_rfl
theorem f178_loop0:isLoop1 (subs 0 (bodyOf Tryz.f178))=true:=by kernel_rfl
theorem f178_tab0:tabOk t178.sd t178.sx (lb Tryz.f178 0)=true:=by kernel_rfl
def t179:FT where
 keep:=[]
 kb:=fun
  |0=>[10,9,8,1,3]
  |_=>[]
 sd:=fun
  |_=>[]
theorem f179_at:Tryz.prog.funcs[179]? = some Tryz.f179:=by kernel_rfl
theorem f179_body:Tryz.f179.body.isSome=true:=by kernel_rfl
theorem f179_tab:tabOk t179.sd t179.sx (bodyOf Tryz.f179)=true:=by kernel_rfl
theorem f179_loop0:isLoop1 (subs 0 (bodyOf Tryz.f179))=true:=by kernel_rfl
theorem f179_tab0:tabOk t179.sd t179.sx (lb Tryz.f179 0)=true:=by kernel_rfl
def t176:FT where
 keep:=[]
 kb:=fun
  |_=>[]
 sd:=fun
  |_=>[]
theorem f176_at:Tryz.prog.funcs[176]? = some Tryz.f176:=by kernel_rfl
theorem f176_body:Tryz.f176.body.isSome=true:=by kernel_rfl
theorem f176_tab:tabOk t176.sd t176.sx (bodyOf Tryz.f176)=true:=by kernel_rfl
def t187:FT where
 keep:=[]
 kb:=fun
  |_=>[]
 sd:=fun
  |_=>[]
theorem f187_at:Tryz.prog.funcs[187]? = some Tryz.f187:=by kernel_rfl
theorem f187_body:Tryz.f187.body.isSome=true:=by kernel_rfl
theorem f187_tab:tabOk t187.sd t187.sx (bodyOf Tryz.f187)=true:=by kernel_rfl
def t10:FT where
 keep:=[]
 kb:=fun
  |_=>[]
 sd:=fun
  |_=>[]
theorem f10_at:Tryz.prog.funcs[10]? = some Tryz.f10:=by kernel_rfl
theorem f10_body:Tryz.f10.body.isSome=true:=by kernel_rfl
theorem f10_tab:tabOk t10.sd t10.sx (bodyOf Tryz.f10)=true:=by kernel_rfl
def t120:FT where
 keep:=[]
 kb:=fun
  |_=>[]
 sd:=fun
  |_=>[]
theorem f120_at:Tryz.prog.funcs[120]? = some Tryz.f120:=by kernel_rfl
theorem f120_body:Tryz.f120.body.isSome=true:=by kernel_rfl
theorem f120_tab:tabOk t120.sd t120.sx (bodyOf Tryz.f120)=true:=by kernel_rfl
def t155:FT where
 keep:=[]
 kb:=fun
  |_=>[]
 sd:=fun
  |_=>[]
theorem f155_at:Tryz.prog.funcs[155]? = some Tryz.f155:=by kernel_rfl
theorem f155_body:Tryz.f155.body.isSome=true:=by kernel_rfl
theorem f155_tab:tabOk t155.sd t155.sx (bodyOf Tryz.f155)=true:=by kernel_rfl
def t157:FT where
 keep:=[]
 kb:=fun
  |_=>[]
 sd:=fun
  |_=>[]
theorem f157_at:Tryz.prog.funcs[157]? = some Tryz.f157:=by kernel_rfl
theorem f157_body:Tryz.f157.body.isSome=true:=by kernel_rfl
theorem f157_tab:tabOk t157.sd t157.sx (bodyOf Tryz.f157)=true:=by kernel_rfl
def t143:FT where
 keep:=[]
 kb:=fun
  |_=>[]
 sd:=fun
  |_=>[]
theorem f143_at:Tryz.prog.funcs[143]? = some Tryz.f143:=by kernel_rfl
theorem f143_body:Tryz.f143.body.isSome=true:=by kernel_rfl
theorem f143_tab:tabOk t143.sd t143.sx (bodyOf Tryz.f143)=true:=by kernel_rfl
def t159:FT where
 keep:=[]
 kb:=fun
  |0=>[4,0,3]
  |_=>[]
 sd:=fun
  |_=>[]
theorem f159_at:Tryz.prog.funcs[159]? = some Tryz.f159:=by kernel_rfl
theorem f159_body:Tryz.f159.body.isSome=true:=by kernel_rfl
theorem f159_tab:tabOk t159.sd t159.sx (bodyOf Tryz.f159)=true:=by kernel_rfl
theorem f159_loop0:isLoop1 (subs 0 (bodyOf Tryz.f159))=true:=by kernel_rfl
theorem f159_tab0:tabOk t159.sd t159.sx (lb Tryz.f159 0)=true:=by kernel_rfl
def t161:FT where
 keep:=[]
 kb:=fun
  |0=>[4,1,3]
  |_=>[]
 sd:=fun
  |_=>[]
theorem f161_at:Tryz.prog.funcs[161]? = some Tryz.f161:=by kernel_rfl
theorem f161_body:Tryz.f161.body.isSome=true:=by kernel_rfl
theorem f161_tab:tabOk t161.sd t161.sx (bodyOf Tryz.f161)=true:=by kernel_rfl
theorem f161_loop0:isLoop1 (subs 0 (bodyOf Tryz.f161))=true:=by kernel_rfl
theorem f161_tab0:tabOk t161.sd t161.sx (lb Tryz.f161 0)=true:=by kernel_rfl
def t162:FT where
 keep:=[]
 kb:=fun
  |0=>[4,1,3]
  |_=>[]
 sd:=fun
  |_=>[]
theorem f162_at:Tryz.prog.funcs[162]? = some Tryz.f162:=by kernel_rfl
theorem f162_body:Tryz.f162.body.isSome=true:=by kernel_rfl
theorem f162_tab:tabOk t162.sd t162.sx (bodyOf Tryz.f162)=true:=by kernel_rfl
theorem f162_loop0:isLoop1 (subs 0 (bodyOf Tryz.f162))=true:=by kernel_rfl
theorem f162_tab0:tabOk t162.sd t162.sx (lb Tryz.f162 0)=true:=by kernel_rfl
def t7:FT where
 keep:=[]
 kb:=fun
  |_=>[]
 sd:=fun
  |_=>[]
theorem f7_at:Tryz.prog.funcs[7]? = some Tryz.f7:=by kernel_rfl
theorem f7_body:Tryz.f7.body.isSome=true:=by kernel_rfl
theorem f7_tab:tabOk t7.sd t7.sx (bodyOf Tryz.f7)=true:=by kernel_rfl
def t24:FT where
 keep:=[]
 kb:=fun
  |0=>[6,2,5,1]
  |2=>[7,2,5,1]
  |4=>[8,2,5,1]
  |_=>[]
 sd:=fun
  |13=>[(0,true),(1,true),(2,true),(3,true),(4,true),(5,true),(6,true),(7,true),(8,true),(9,true),(12,true),(13,true),(14,true),(15,true),(16,true),(17,true),(18,true),(19,true),(10,false),(11,true),(20,true),(21,true),(22,true)]
  |_=>[]
theorem f24_at:Tryz.prog.funcs[24]? = some Tryz.f24:=by kernel_rfl
theorem f24_body:Tryz.f24.body.isSome=true:=by kernel_rfl
theorem f24_tab:tabOk t24.sd t24.sx (bodyOf Tryz.f24)=true:=by kernel_rfl
theorem f24_loop0:isLoop1 (subs 0 (bodyOf Tryz.f24))=true:=by kernel_rfl
theorem f24_tab0:tabOk t24.sd t24.sx (lb Tryz.f24 0)=true:=by kernel_rfl
theorem f24_loop2:isLoop1 (subs 2 (bodyOf Tryz.f24))=true:=by kernel_rfl
theorem f24_tab2:tabOk t24.sd t24.sx (lb Tryz.f24 2)=true:=by kernel_rfl
theorem f24_loop4:isLoop1 (subs 4 (bodyOf Tryz.f24))=true:=by kernel_rfl
theorem f24_tab4:tabOk t24.sd t24.sx (lb Tryz.f24 4)=true:=by kernel_rfl
def t3:FT where
 keep:=[]
 kb:=fun
  |_=>[]
 sd:=fun
  |7=>[(0,true),(1,false),(2,true),(3,true),(5,true),(4,false),(6,false),(7,true),(8,true),(9,true)]
  |_=>[]
theorem f3_at:Tryz.prog.funcs[3]? = some Tryz.f3:=by kernel_rfl
theorem f3_body:Tryz.f3.body.isSome=true:=by kernel_rfl
theorem f3_tab:tabOk t3.sd t3.sx (bodyOf Tryz.f3)=true:=by kernel_rfl
def t142:FT where
 keep:=[]
 kb:=fun
  |0=>[4,3,0]
  |2=>[5,3,4,0]
  |_=>[]
 sd:=fun
  |_=>[]
theorem f142_at:Tryz.prog.funcs[142]? = some Tryz.f142:=by kernel_rfl
theorem f142_body:Tryz.f142.body.isSome=true:=by kernel_rfl
theorem f142_tab:tabOk t142.sd t142.sx (bodyOf Tryz.f142)=true:=by kernel_rfl
theorem f142_loop0:isLoop1 (subs 0 (bodyOf Tryz.f142))=true:=by kernel_rfl
theorem f142_tab0:tabOk t142.sd t142.sx (lb Tryz.f142 0)=true:=by kernel_rfl
theorem f142_loop2:isLoop1 (subs 2 (bodyOf Tryz.f142))=true:=by kernel_rfl
theorem f142_tab2:tabOk t142.sd t142.sx (lb Tryz.f142 2)=true:=by kernel_rfl
def t177:FT where
 keep:=[]
 kb:=fun
  |0=>[9,8,0,3]
  |_=>[]
 sd:=fun
  |_=>[]
theorem f177_at:Tryz.prog.funcs[177]? = some Tryz.f177:=by kernel_rfl
theorem f177_body:Tryz.f177.body.isSome=true:=by kernel_rfl
theorem f177_tab:tabOk t177.sd t177.sx (bodyOf Tryz.f177)=true:=by kernel_rfl
theorem f177_loop0:isLoop1 (subs 0 (bodyOf Tryz.f177))=true:=by kernel_rfl
theorem f177_tab0:tabOk t177.sd t177.sx (lb Tryz.f177 0)=true:=by kernel_rfl
def t31:FT where
 keep:=[]
 kb:=fun
  |_=>[]
 sd:=fun
  |_=>[]
theorem f31_at:Tryz.prog.funcs[31]? = some Tryz.f31:=by kernel_rfl
theorem f31_body:Tryz.f31.body.isSome=true:=by kernel_rfl
theorem f31_tab:tabOk t31.sd t31.sx (bodyOf Tryz.f31)=true:=by kernel_rfl
end Go.Proofs.YtkamjbmjjhbjcaaGreatDoor
