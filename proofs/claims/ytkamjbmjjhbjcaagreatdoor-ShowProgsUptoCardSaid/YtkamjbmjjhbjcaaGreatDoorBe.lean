/- Joined texts. -/
import Derived.Test.YtkamjbmjjhbjcaaGreatDoorSy0
import Derived.Test.YtkamjbmjjhbjcaaGreatDoorSz0
import Derived.KernelRfl
import Derived.Test.YtkamjbmjjhbjcaaGreatDoorBl
set_option linter.unusedVariables false
set_option linter.unusedSimpArgs false
set_option linter.unusedSectionVars false
namespace Go.Proofs.YtkamjbmjjhbjcaaGreatDoor
open Go.RowKit
set_option maxRecDepth 100000
section
variable{k f:Nat}{fn:Func}
theorem rf0(t:FT)(h1:PG.funcs[f]? = some fn)(h:(fn.body.isSome&&tabOk t.sd t.sx (bodyOf fn)&&fnB PG SS EE TT k f t)=true):RK k:=rF2 mixed h1 h
theorem rl0{id:Nat}(t:FT)(h1:PG.funcs[f]? = some fn)(h:(isLoop1 (subs id (bodyOf fn))&&tabOk t.sd t.sx (lb fn id)&&lpC PG SS EE TT k f id fn t)=true):RK k:=rL2 mixed h1 h
end
theorem ru0:RK 0:=rf0 t12 f12_at (by kernel_rfl)
theorem ru1:RK 1:=rl0 (id:=0) t12 f12_at (by kernel_rfl)
theorem ru2:RK 2:=rf0 t13 f13_at (by kernel_rfl)
theorem ru3:RK 3:=rl0 (id:=0) t13 f13_at (by kernel_rfl)
theorem ru4:RK 4:=rf0 t14 f14_at (by kernel_rfl)
theorem ru5:RK 5:=rl0 (id:=0) t14 f14_at (by kernel_rfl)
theorem ru6:RK 6:=rf0 t15 f15_at (by kernel_rfl)
theorem ru7:RK 7:=rl0 (id:=0) t15 f15_at (by kernel_rfl)
theorem ru8:RK 8:=rf0 t16 f16_at (by kernel_rfl)
theorem ru9:RK 9:=rl0 (id:=1) t16 f16_at (by kernel_rfl)
theorem ru10:RK 10:=rf0 t17 f17_at (by kernel_rfl)
theorem ru11:RK 11:=rf0 t29 f29_at (by kernel_rfl)
theorem ru12:RK 12:=rf0 t32 f32_at (by kernel_rfl)
theorem ru13:RK 13:=rf0 t42 f42_at (by kernel_rfl)
theorem ru14:RK 14:=rf0 t44 f44_at (by kernel_rfl)
theorem ru15:RK 15:=rl0 (id:=0) t44 f44_at (by kernel_rfl)
theorem ru16:RK 16:=rf0 t88 f88_at (by kernel_rfl)
theorem ru17:RK 17:=rf0 t41 f41_at (by kernel_rfl)
theorem ru18:RK 18:=rf0 t84 f84_at (by kernel_rfl)
theorem ru19:RK 19:=rf0 t85 f85_at (by kernel_rfl)
theorem ru20:RK 20:=rl0 (id:=0) t85 f85_at (by kernel_rfl)
theorem ru21:RK 21:=rf0 t86 f86_at (by kernel_rfl)
theorem ru22:RK 22:=rf0 t127 f127_at (by kernel_rfl)
theorem ru23:RK 23:=rf0 t128 f128_at (by kernel_rfl)
theorem ru24:RK 24:=rf0 t74 f74_at (by kernel_rfl)
theorem ru25:RK 25:=rl0 (id:=0) t74 f74_at (by kernel_rfl)
theorem ru26:RK 26:=rf0 t75 f75_at (by kernel_rfl)
theorem ru27:RK 27:=rl0 (id:=0) t75 f75_at (by kernel_rfl)
theorem ru28:RK 28:=rf0 t9 f9_at (by kernel_rfl)
theorem ru29:RK 29:=rf0 t27 f27_at (by kernel_rfl)
theorem ru30:RK 30:=rf0 t28 f28_at (by kernel_rfl)
theorem ru31:RK 31:=rf0 t30 f30_at (by kernel_rfl)
theorem ru32:RK 32:=rf0 t35 f35_at (by kernel_rfl)
theorem ru33:RK 33:=rf0 t71 f71_at (by kernel_rfl)
theorem ru34:RK 34:=rf0 t33 f33_at (by kernel_rfl)
theorem ru35:RK 35:=rl0 (id:=0) t33 f33_at (by kernel_rfl)
theorem ru36:RK 36:=rf0 t34 f34_at (by kernel_rfl)
theorem ru37:RK 37:=rl0 (id:=0) t34 f34_at (by kernel_rfl)
theorem ru38:RK 38:=rf0 t36 f36_at (by kernel_rfl)
theorem ru39:RK 39:=rl0 (id:=0) t36 f36_at (by kernel_rfl)
theorem ru40:RK 40:=rf0 t8 f8_at (by kernel_rfl)
theorem ru41:RK 41:=rl0 (id:=0) t8 f8_at (by kernel_rfl)
theorem ru42:RK 42:=rl0 (id:=2) t8 f8_at (by kernel_rfl)
theorem ru43:RK 43:=rf0 t25 f25_at (by kernel_rfl)
theorem ru44:RK 44:=rf0 t26 f26_at (by kernel_rfl)
theorem ru45:RK 45:=rl0 (id:=0) t26 f26_at (by kernel_rfl)
theorem ru46:RK 46:=rf0 t68 f68_at (by kernel_rfl)
theorem ru47:RK 47:=rl0 (id:=0) t68 f68_at (by kernel_rfl)
theorem ru48:RK 48:=rf0 t69 f69_at (by kernel_rfl)
theorem ru49:RK 49:=rf0 t63 f63_at (by kernel_rfl)
theorem ru50:RK 50:=rf0 t107 f107_at (by kernel_rfl)
theorem ru51:RK 51:=rl0 (id:=0) t107 f107_at (by kernel_rfl)
theorem ru52:RK 52:=rl0 (id:=0) t107 f107_at (by kernel_rfl)
theorem ru53:RK 53:=rl0 (id:=0) t107 f107_at (by kernel_rfl)
theorem ru54:RK 54:=rf0 t37 f37_at (by kernel_rfl)
theorem ru55:RK 55:=rf0 t77 f77_at (by kernel_rfl)
theorem ru56:RK 56:=rf0 t77 f77_at (by kernel_rfl)
theorem ru57:RK 57:=rf0 t118 f118_at (by kernel_rfl)
theorem ru58:RK 58:=rf0 t118 f118_at (by kernel_rfl)
theorem ru59:RK 59:=rf0 t153 f153_at (by kernel_rfl)
theorem ru60:RK 60:=rl0 (id:=1) t153 f153_at (by kernel_rfl)
theorem ru61:RK 61:=rf0 t116 f116_at (by kernel_rfl)
set_option maxRecDepth 100000
section
variable{k f:Nat}{fn:Func}
theorem rf1(t:FT)(h1:PG.funcs[f]? = some fn)(h:(fn.body.isSome&&tabOk t.sd t.sx (bodyOf fn)&&fnB PG SS EE TT k f t)=true):RK k:=rF2 mixed h1 h
theorem rl1{id:Nat}(t:FT)(h1:PG.funcs[f]? = some fn)(h:(isLoop1 (subs id (bodyOf fn))&&tabOk t.sd t.sx (lb fn id)&&lpC PG SS EE TT k f id fn t)=true):RK k:=rL2 mixed h1 h
end
theorem ru62:RK 62:=rf1 t153 f153_at (by kernel_rfl)
theorem ru63:RK 63:=rl1 (id:=1) t153 f153_at (by kernel_rfl)
theorem ru64:RK 64:=rf1 t116 f116_at (by kernel_rfl)
theorem ru65:RK 65:=rf1 t150 f150_at (by kernel_rfl)
theorem ru66:RK 66:=rf1 t150 f150_at (by kernel_rfl)
theorem ru67:RK 67:=rf1 t119 f119_at (by kernel_rfl)
theorem ru68:RK 68:=rf1 t151 f151_at (by kernel_rfl)
theorem ru69:RK 69:=rl1 (id:=1) t151 f151_at (by kernel_rfl)
theorem ru70:RK 70:=rf1 t150 f150_at (by kernel_rfl)
theorem ru71:RK 71:=rf1 t150 f150_at (by kernel_rfl)
theorem ru72:RK 72:=rf1 t119 f119_at (by kernel_rfl)
theorem ru73:RK 73:=rf1 t151 f151_at (by kernel_rfl)
theorem ru74:RK 74:=rl1 (id:=1) t151 f151_at (by kernel_rfl)
theorem ru75:RK 75:=rf1 t76 f76_at (by kernel_rfl)
theorem ru76:RK 76:=rf1 t116 f116_at (by kernel_rfl)
theorem ru77:RK 77:=rf1 t154 f154_at (by kernel_rfl)
theorem ru78:RK 78:=rf1 t78 f78_at (by kernel_rfl)
theorem ru79:RK 79:=rf1 t116 f116_at (by kernel_rfl)
theorem ru80:RK 80:=rf1 t154 f154_at (by kernel_rfl)
theorem ru81:RK 81:=rf1 t150 f150_at (by kernel_rfl)
theorem ru82:RK 82:=rf1 t76 f76_at (by kernel_rfl)
theorem ru83:RK 83:=rf1 t150 f150_at (by kernel_rfl)
theorem ru84:RK 84:=rf1 t11 f11_at (by kernel_rfl)
theorem ru85:RK 85:=rf1 t38 f38_at (by kernel_rfl)
theorem ru86:RK 86:=rf1 t38 f38_at (by kernel_rfl)
theorem ru87:RK 87:=rf1 t79 f79_at (by kernel_rfl)
theorem ru88:RK 88:=rl1 (id:=1) t79 f79_at (by kernel_rfl)
theorem ru89:RK 89:=rf1 t79 f79_at (by kernel_rfl)
theorem ru90:RK 90:=rl1 (id:=1) t79 f79_at (by kernel_rfl)
theorem ru91:RK 91:=rf1 t121 f121_at (by kernel_rfl)
theorem ru92:RK 92:=rf1 t122 f122_at (by kernel_rfl)
theorem ru93:RK 93:=rf1 t122 f122_at (by kernel_rfl)
theorem ru94:RK 94:=rf1 t123 f123_at (by kernel_rfl)
theorem ru95:RK 95:=rf1 t124 f124_at (by kernel_rfl)
theorem ru96:RK 96:=rl1 (id:=1) t124 f124_at (by kernel_rfl)
theorem ru97:RK 97:=rf1 t121 f121_at (by kernel_rfl)
theorem ru98:RK 98:=rf1 t122 f122_at (by kernel_rfl)
theorem ru99:RK 99:=rf1 t122 f122_at (by kernel_rfl)
theorem ru100:RK 100:=rf1 t123 f123_at (by kernel_rfl)
theorem ru101:RK 101:=rf1 t124 f124_at (by kernel_rfl)
theorem ru102:RK 102:=rl1 (id:=1) t124 f124_at (by kernel_rfl)
theorem ru103:RK 103:=rf1 t156 f156_at (by kernel_rfl)
theorem ru104:RK 104:=rf1 t79 f79_at (by kernel_rfl)
theorem ru105:RK 105:=rl1 (id:=1) t79 f79_at (by kernel_rfl)
theorem ru106:RK 106:=rf1 t158 f158_at (by kernel_rfl)
theorem ru107:RK 107:=rf1 t160 f160_at (by kernel_rfl)
theorem ru108:RK 108:=rf1 t156 f156_at (by kernel_rfl)
theorem ru109:RK 109:=rf1 t79 f79_at (by kernel_rfl)
theorem ru110:RK 110:=rl1 (id:=1) t79 f79_at (by kernel_rfl)
theorem ru111:RK 111:=rf1 t158 f158_at (by kernel_rfl)
theorem ru112:RK 112:=rf1 t160 f160_at (by kernel_rfl)
theorem ru113:RK 113:=rf1 t122 f122_at (by kernel_rfl)
theorem ru114:RK 114:=rf1 t122 f122_at (by kernel_rfl)
theorem ru115:RK 115:=rf1 t147 f147_at (by kernel_rfl)
theorem ru116:RK 116:=rl1 (id:=0) t147 f147_at (by kernel_rfl)
theorem ru117:RK 117:=rl1 (id:=0) t147 f147_at (by kernel_rfl)
theorem ru118:RK 118:=rf1 t148 f148_at (by kernel_rfl)
theorem ru119:RK 119:=rf1 t117 f117_at (by kernel_rfl)
theorem ru120:RK 120:=rf1 t115 f115_at (by kernel_rfl)
theorem ru121:RK 121:=rf1 t149 f149_at (by kernel_rfl)
theorem ru122:RK 122:=rf1 t152 f152_at (by kernel_rfl)
theorem ru123:RK 123:=rf1 t98 f98_at (by kernel_rfl)
set_option maxRecDepth 100000
section
variable{k f:Nat}{fn:Func}
theorem rf2(t:FT)(h1:PG.funcs[f]? = some fn)(h:(fn.body.isSome&&tabOk t.sd t.sx (bodyOf fn)&&fnB PG SS EE TT k f t)=true):RK k:=rF2 mixed h1 h
theorem rl2{id:Nat}(t:FT)(h1:PG.funcs[f]? = some fn)(h:(isLoop1 (subs id (bodyOf fn))&&tabOk t.sd t.sx (lb fn id)&&lpC PG SS EE TT k f id fn t)=true):RK k:=rL2 mixed h1 h
end
theorem ru124:RK 124:=rf2 t188 f188_at (by kernel_rfl)
theorem ru125:RK 125:=rf2 t188 f188_at (by kernel_rfl)
theorem ru126:RK 126:=rf2 t178 f178_at (by kernel_rfl)
theorem ru127:RK 127:=rl2 (id:=0) t178 f178_at (by kernel_rfl)
theorem ru128:RK 128:=rf2 t179 f179_at (by kernel_rfl)
theorem ru129:RK 129:=rl2 (id:=0) t179 f179_at (by kernel_rfl)
theorem ru130:RK 130:=rf2 t176 f176_at (by kernel_rfl)
theorem ru131:RK 131:=rf2 t176 f176_at (by kernel_rfl)
theorem ru132:RK 132:=rf2 t187 f187_at (by kernel_rfl)
theorem ru133:RK 133:=rf2 t10 f10_at (by kernel_rfl)
theorem ru134:RK 134:=rf2 t120 f120_at (by kernel_rfl)
theorem ru135:RK 135:=rf2 t155 f155_at (by kernel_rfl)
theorem ru136:RK 136:=rf2 t157 f157_at (by kernel_rfl)
theorem ru137:RK 137:=rf2 t157 f157_at (by kernel_rfl)
theorem ru138:RK 138:=rf2 t143 f143_at (by kernel_rfl)
theorem ru139:RK 139:=rf2 t159 f159_at (by kernel_rfl)
theorem ru140:RK 140:=rl2 (id:=0) t159 f159_at (by kernel_rfl)
theorem ru141:RK 141:=rf2 t161 f161_at (by kernel_rfl)
theorem ru142:RK 142:=rl2 (id:=0) t161 f161_at (by kernel_rfl)
theorem ru143:RK 143:=rf2 t162 f162_at (by kernel_rfl)
theorem ru144:RK 144:=rl2 (id:=0) t162 f162_at (by kernel_rfl)
theorem ru145:RK 145:=rf2 t7 f7_at (by kernel_rfl)
theorem ru146:RK 146:=rf2 t24 f24_at (by kernel_rfl)
theorem ru147:RK 147:=rl2 (id:=0) t24 f24_at (by kernel_rfl)
theorem ru148:RK 148:=rl2 (id:=2) t24 f24_at (by kernel_rfl)
theorem ru149:RK 149:=rl2 (id:=4) t24 f24_at (by kernel_rfl)
theorem ru150:RK 150:=rf2 t142 f142_at (by kernel_rfl)
theorem ru151:RK 151:=rl2 (id:=0) t142 f142_at (by kernel_rfl)
theorem ru152:RK 152:=rl2 (id:=2) t142 f142_at (by kernel_rfl)
theorem ru153:RK 153:=rf2 t177 f177_at (by kernel_rfl)
theorem ru154:RK 154:=rl2 (id:=0) t177 f177_at (by kernel_rfl)
theorem ru155:RK 155:=rl2 (id:=0) t177 f177_at (by kernel_rfl)
theorem ru156:RK 156:=rf2 t31 f31_at (by kernel_rfl)
theorem ru157:RK 157:=rf2 t20 f20_at (by kernel_rfl)
theorem ru158:RK 158:=rf2 t49 f49_at (by kernel_rfl)
theorem ru159:RK 159:=rf2 t51 f51_at (by kernel_rfl)
theorem ru160:RK 160:=rf2 t53 f53_at (by kernel_rfl)
theorem ru161:RK 161:=rf2 t90 f90_at (by kernel_rfl)
theorem ru162:RK 162:=rf2 t93 f93_at (by kernel_rfl)
theorem ru163:RK 163:=rf2 t95 f95_at (by kernel_rfl)
theorem ru164:RK 164:=rf2 t21 f21_at (by kernel_rfl)
theorem ru165:RK 165:=rf2 t55 f55_at (by kernel_rfl)
theorem ru166:RK 166:=rl2 (id:=0) t55 f55_at (by kernel_rfl)
theorem ru167:RK 167:=rl2 (id:=2) t55 f55_at (by kernel_rfl)
theorem ru168:RK 168:=rf2 t57 f57_at (by kernel_rfl)
theorem ru169:RK 169:=rl2 (id:=0) t57 f57_at (by kernel_rfl)
theorem ru170:RK 170:=rl2 (id:=2) t57 f57_at (by kernel_rfl)
theorem ru171:RK 171:=rf2 t59 f59_at (by kernel_rfl)
theorem ru172:RK 172:=rl2 (id:=0) t59 f59_at (by kernel_rfl)
theorem ru173:RK 173:=rl2 (id:=2) t59 f59_at (by kernel_rfl)
theorem ru174:RK 174:=rf2 t61 f61_at (by kernel_rfl)
theorem ru175:RK 175:=rf2 t48 f48_at (by kernel_rfl)
theorem ru176:RK 176:=rl2 (id:=0) t48 f48_at (by kernel_rfl)
theorem ru177:RK 177:=rf2 t50 f50_at (by kernel_rfl)
theorem ru178:RK 178:=rl2 (id:=0) t50 f50_at (by kernel_rfl)
theorem ru179:RK 179:=rf2 t52 f52_at (by kernel_rfl)
theorem ru180:RK 180:=rl2 (id:=0) t52 f52_at (by kernel_rfl)
theorem ru181:RK 181:=rf2 t91 f91_at (by kernel_rfl)
theorem ru182:RK 182:=rl2 (id:=0) t91 f91_at (by kernel_rfl)
theorem ru183:RK 183:=rf2 t92 f92_at (by kernel_rfl)
theorem ru184:RK 184:=rl2 (id:=0) t92 f92_at (by kernel_rfl)
theorem ru185:RK 185:=rf2 t91 f91_at (by kernel_rfl)
set_option maxRecDepth 100000
section
variable{k f:Nat}{fn:Func}
theorem rf3(t:FT)(h1:PG.funcs[f]? = some fn)(h:(fn.body.isSome&&tabOk t.sd t.sx (bodyOf fn)&&fnB PG SS EE TT k f t)=true):RK k:=rF2 mixed h1 h
theorem rl3{id:Nat}(t:FT)(h1:PG.funcs[f]? = some fn)(h:(isLoop1 (subs id (bodyOf fn))&&tabOk t.sd t.sx (lb fn id)&&lpC PG SS EE TT k f id fn t)=true):RK k:=rL2 mixed h1 h
end
theorem ru186:RK 186:=rl3 (id:=0) t91 f91_at (by kernel_rfl)
theorem ru187:RK 187:=rf3 t94 f94_at (by kernel_rfl)
theorem ru188:RK 188:=rl3 (id:=0) t94 f94_at (by kernel_rfl)
theorem ru189:RK 189:=rf3 t96 f96_at (by kernel_rfl)
theorem ru190:RK 190:=rl3 (id:=0) t96 f96_at (by kernel_rfl)
theorem ru191:RK 191:=rf3 t54 f54_at (by kernel_rfl)
theorem ru192:RK 192:=rl3 (id:=0) t54 f54_at (by kernel_rfl)
theorem ru193:RK 193:=rf3 t56 f56_at (by kernel_rfl)
theorem ru194:RK 194:=rl3 (id:=0) t56 f56_at (by kernel_rfl)
theorem ru195:RK 195:=rf3 t58 f58_at (by kernel_rfl)
theorem ru196:RK 196:=rl3 (id:=0) t58 f58_at (by kernel_rfl)
theorem ru197:RK 197:=rf3 t60 f60_at (by kernel_rfl)
theorem ru198:RK 198:=rl3 (id:=0) t60 f60_at (by kernel_rfl)
theorem ru199:RK 199:=rf3 t18 f18_at (by kernel_rfl)
theorem ru200:RK 200:=rl3 (id:=0) t18 f18_at (by kernel_rfl)
theorem ru201:RK 201:=rl3 (id:=2) t18 f18_at (by kernel_rfl)
theorem ru202:RK 202:=rl3 (id:=4) t18 f18_at (by kernel_rfl)
theorem ru203:RK 203:=rl3 (id:=6) t18 f18_at (by kernel_rfl)
theorem ru204:RK 204:=rl3 (id:=8) t18 f18_at (by kernel_rfl)
theorem ru205:RK 205:=rl3 (id:=10) t18 f18_at (by kernel_rfl)
theorem ru206:RK 206:=rf3 t19 f19_at (by kernel_rfl)
theorem ru207:RK 207:=rl3 (id:=0) t19 f19_at (by kernel_rfl)
theorem ru208:RK 208:=rl3 (id:=2) t19 f19_at (by kernel_rfl)
theorem ru209:RK 209:=rl3 (id:=4) t19 f19_at (by kernel_rfl)
theorem ru210:RK 210:=rf3 t45 f45_at (by kernel_rfl)
theorem ru211:RK 211:=rl3 (id:=0) t45 f45_at (by kernel_rfl)
theorem ru212:RK 212:=rl3 (id:=2) t45 f45_at (by kernel_rfl)
theorem ru213:RK 213:=rl3 (id:=4) t45 f45_at (by kernel_rfl)
theorem ru214:RK 214:=rf3 t46 f46_at (by kernel_rfl)
theorem ru215:RK 215:=rl3 (id:=0) t46 f46_at (by kernel_rfl)
theorem ru216:RK 216:=rf3 t47 f47_at (by kernel_rfl)
theorem ru217:RK 217:=rl3 (id:=0) t47 f47_at (by kernel_rfl)
theorem ru218:RK 218:=rf3 t89 f89_at (by kernel_rfl)
theorem ru219:RK 219:=rl3 (id:=0) t89 f89_at (by kernel_rfl)
theorem ru220:RK 220:=rf3 t64 f64_at (by kernel_rfl)
theorem ru221:RK 221:=rf3 t62 f62_at (by kernel_rfl)
theorem ru222:RK 222:=rl3 (id:=0) t62 f62_at (by kernel_rfl)
theorem ru223:RK 223:=rf3 t22 f22_at (by kernel_rfl)
theorem ru224:RK 224:=rl3 (id:=0) t22 f22_at (by kernel_rfl)
theorem ru225:RK 225:=rl3 (id:=2) t22 f22_at (by kernel_rfl)
theorem ru226:RK 226:=rl3 (id:=2) t22 f22_at (by kernel_rfl)
theorem ru227:RK 227:=rl3 (id:=4) t22 f22_at (by kernel_rfl)
theorem ru228:RK 228:=rl3 (id:=4) t22 f22_at (by kernel_rfl)
theorem ru229:RK 229:=rl3 (id:=6) t22 f22_at (by kernel_rfl)
theorem ru230:RK 230:=rl3 (id:=8) t22 f22_at (by kernel_rfl)
theorem ru231:RK 231:=rl3 (id:=10) t22 f22_at (by kernel_rfl)
theorem ru232:RK 232:=rl3 (id:=12) t22 f22_at (by kernel_rfl)
theorem ru233:RK 233:=rl3 (id:=14) t22 f22_at (by kernel_rfl)
theorem ru234:RK 234:=rl3 (id:=14) t22 f22_at (by kernel_rfl)
theorem ru235:RK 235:=rl3 (id:=16) t22 f22_at (by kernel_rfl)
theorem ru236:RK 236:=rl3 (id:=18) t22 f22_at (by kernel_rfl)
set_option maxRecDepth 100000
theorem ru237:RK 237:=ext1_ok (f:=72) (m:=224) (g:=xUp) (by kernel_rfl) (by kernel_rfl) (by kernel_rfl) x72_ok
theorem ru238:RK 238:=ext1_ok (f:=73) (m:=225) (g:=xLow) (by kernel_rfl) (by kernel_rfl) (by kernel_rfl) x73_ok
theorem ru239:RK 239:=ext1_ok (f:=39) (m:=226) (g:=xUp) (by kernel_rfl) (by kernel_rfl) (by kernel_rfl) x39_ok
theorem ru240:RK 240:=ext1_ok (f:=40) (m:=227) (g:=xLow) (by kernel_rfl) (by kernel_rfl) (by kernel_rfl) x40_ok
theorem ru241:RK 241:=ext1_ok (f:=43) (m:=228) (g:=xTxt) (by kernel_rfl) (by kernel_rfl) (by kernel_rfl) x43_ok
theorem ru242:RK 242:=ext1_ok (f:=109) (m:=229) (g:=xOp) (by kernel_rfl) (by kernel_rfl) (by kernel_rfl) x109_ok
theorem ru243:RK 243:=ext1_ok (f:=99) (m:=230) (g:=xOp) (by kernel_rfl) (by kernel_rfl) (by kernel_rfl) x99_ok
theorem ru244:RK 244:=ext1_ok (f:=70) (m:=231) (g:=xUtf) (by kernel_rfl) (by kernel_rfl) (by kernel_rfl) x70_ok
theorem ru246:RK 246:=ext2_ok (f:=175) (m:=233) (g:=xByte) (by kernel_rfl) (by kernel_rfl) (by kernel_rfl) x175_ok
theorem ru245:RK 245:=ext2_ok (f:=97) (m:=232) (g:=xJoin) (by kernel_rfl) (by kernel_rfl) (by kernel_rfl) x97_ok
set_option maxRecDepth 100000
theorem tabs:TabsOk PG SS EE:=TabsOk.of (by kernel_rfl) (by kernel_rfl) (by kernel_rfl)
theorem ru_0:AllK (RuleOk PG SS EE TT) 0:=trivial
theorem ru_20:AllK (RuleOk PG SS EE TT) 20:=⟨⟨⟨⟨⟨⟨⟨⟨⟨⟨⟨⟨⟨⟨⟨⟨⟨⟨⟨⟨ru_0,ru0⟩,ru1⟩,ru2⟩,ru3⟩,ru4⟩,ru5⟩,ru6⟩,ru7⟩,ru8⟩,ru9⟩,ru10⟩,ru11⟩,ru12⟩,ru13⟩,ru14⟩,ru15⟩,ru16⟩,ru17⟩,ru18⟩,ru19⟩
theorem ru_40:AllK (RuleOk PG SS EE TT) 40:=⟨⟨⟨⟨⟨⟨⟨⟨⟨⟨⟨⟨⟨⟨⟨⟨⟨⟨⟨⟨ru_20,ru20⟩,ru21⟩,ru22⟩,ru23⟩,ru24⟩,ru25⟩,ru26⟩,ru27⟩,ru28⟩,ru29⟩,ru30⟩,ru31⟩,ru32⟩,ru33⟩,ru34⟩,ru35⟩,ru36⟩,ru37⟩,ru38⟩,ru39⟩
theorem ru_60:AllK (RuleOk PG SS EE TT) 60:=⟨⟨⟨⟨⟨⟨⟨⟨⟨⟨⟨⟨⟨⟨⟨⟨⟨⟨⟨⟨ru_40,ru40⟩,ru41⟩,ru42⟩,ru43⟩,ru44⟩,ru45⟩,ru46⟩,ru47⟩,ru48⟩,ru49⟩,ru50⟩,ru51⟩,ru52⟩,ru53⟩,ru54⟩,ru55⟩,ru56⟩,ru57⟩,ru58⟩,ru59⟩
theorem ru_80:AllK (RuleOk PG SS EE TT) 80:=⟨⟨⟨⟨⟨⟨⟨⟨⟨⟨⟨⟨⟨⟨⟨⟨⟨⟨⟨⟨ru_60,ru60⟩,ru61⟩,ru62⟩,ru63⟩,ru64⟩,ru65⟩,ru66⟩,ru67⟩,ru68⟩,ru69⟩,ru70⟩,ru71⟩,ru72⟩,ru73⟩,ru74⟩,ru75⟩,ru76⟩,ru77⟩,ru78⟩,ru79⟩
theorem ru_100:AllK (RuleOk PG SS EE TT) 100:=⟨⟨⟨⟨⟨⟨⟨⟨⟨⟨⟨⟨⟨⟨⟨⟨⟨⟨⟨⟨ru_80,ru80⟩,ru81⟩,ru82⟩,ru83⟩,ru84⟩,ru85⟩,ru86⟩,ru87⟩,ru88⟩,ru89⟩,ru90⟩,ru91⟩,ru92⟩,ru93⟩,ru94⟩,ru95⟩,ru96⟩,ru97⟩,ru98⟩,ru99⟩
theorem ru_120:AllK (RuleOk PG SS EE TT) 120:=⟨⟨⟨⟨⟨⟨⟨⟨⟨⟨⟨⟨⟨⟨⟨⟨⟨⟨⟨⟨ru_100,ru100⟩,ru101⟩,ru102⟩,ru103⟩,ru104⟩,ru105⟩,ru106⟩,ru107⟩,ru108⟩,ru109⟩,ru110⟩,ru111⟩,ru112⟩,ru113⟩,ru114⟩,ru115⟩,ru116⟩,ru117⟩,ru118⟩,ru119⟩
theorem ru_140:AllK (RuleOk PG SS EE TT) 140:=⟨⟨⟨⟨⟨⟨⟨⟨⟨⟨⟨⟨⟨⟨⟨⟨⟨⟨⟨⟨ru_120,ru120⟩,ru121⟩,ru122⟩,ru123⟩,ru124⟩,ru125⟩,ru126⟩,ru127⟩,ru128⟩,ru129⟩,ru130⟩,ru131⟩,ru132⟩,ru133⟩,ru134⟩,ru135⟩,ru136⟩,ru137⟩,ru138⟩,ru139⟩
theorem ru_160:AllK (RuleOk PG SS EE TT) 160:=⟨⟨⟨⟨⟨⟨⟨⟨⟨⟨⟨⟨⟨⟨⟨⟨⟨⟨⟨⟨ru_140,ru140⟩,ru141⟩,ru142⟩,ru143⟩,ru144⟩,ru145⟩,ru146⟩,ru147⟩,ru148⟩,ru149⟩,ru150⟩,ru151⟩,ru152⟩,ru153⟩,ru154⟩,ru155⟩,ru156⟩,ru157⟩,ru158⟩,ru159⟩
theorem ru_180:AllK (RuleOk PG SS EE TT) 180:=⟨⟨⟨⟨⟨⟨⟨⟨⟨⟨⟨⟨⟨⟨⟨⟨⟨⟨⟨⟨ru_160,ru160⟩,ru161⟩,ru162⟩,ru163⟩,ru164⟩,ru165⟩,ru166⟩,ru167⟩,ru168⟩,ru169⟩,ru170⟩,ru171⟩,ru172⟩,ru173⟩,ru174⟩,ru175⟩,ru176⟩,ru177⟩,ru178⟩,ru179⟩
theorem ru_200:AllK (RuleOk PG SS EE TT) 200:=⟨⟨⟨⟨⟨⟨⟨⟨⟨⟨⟨⟨⟨⟨⟨⟨⟨⟨⟨⟨ru_180,ru180⟩,ru181⟩,ru182⟩,ru183⟩,ru184⟩,ru185⟩,ru186⟩,ru187⟩,ru188⟩,ru189⟩,ru190⟩,ru191⟩,ru192⟩,ru193⟩,ru194⟩,ru195⟩,ru196⟩,ru197⟩,ru198⟩,ru199⟩
theorem ru_220:AllK (RuleOk PG SS EE TT) 220:=⟨⟨⟨⟨⟨⟨⟨⟨⟨⟨⟨⟨⟨⟨⟨⟨⟨⟨⟨⟨ru_200,ru200⟩,ru201⟩,ru202⟩,ru203⟩,ru204⟩,ru205⟩,ru206⟩,ru207⟩,ru208⟩,ru209⟩,ru210⟩,ru211⟩,ru212⟩,ru213⟩,ru214⟩,ru215⟩,ru216⟩,ru217⟩,ru218⟩,ru219⟩
theorem ru_240:AllK (RuleOk PG SS EE TT) 240:=⟨⟨⟨⟨⟨⟨⟨⟨⟨⟨⟨⟨⟨⟨⟨⟨⟨⟨⟨⟨ru_220,ru220⟩,ru221⟩,ru222⟩,ru223⟩,ru224⟩,ru225⟩,ru226⟩,ru227⟩,ru228⟩,ru229⟩,ru230⟩,ru231⟩,ru232⟩,ru233⟩,ru234⟩,ru235⟩,ru236⟩,ru237⟩,ru238⟩,ru239⟩
theorem ru_247:AllK (RuleOk PG SS EE TT) 247:=⟨⟨⟨⟨⟨⟨⟨ru_240,ru240⟩,ru241⟩,ru242⟩,ru243⟩,ru244⟩,ru245⟩,ru246⟩
theorem noMore:∀k,247≤k→(EE k).base=none∧TT k=etNo:=fun k hk=>⟨by unfold EE;rw[nth_out dEn enL k (Nat.le_trans (by decide) hk)];rfl,by unfold TT;rw[nth_out etNo etL k (Nat.le_trans (by decide) hk)]⟩
theorem ev_sound{q:Q}{r:Rs}(h:ev q=some r)(hp:Pre EE q):SemQ PG SS EE q r∧Pst SS (EE q.k).fam r:=Evl.sound tabs ru_247.get noMore h hp
end Go.Proofs.YtkamjbmjjhbjcaaGreatDoor
