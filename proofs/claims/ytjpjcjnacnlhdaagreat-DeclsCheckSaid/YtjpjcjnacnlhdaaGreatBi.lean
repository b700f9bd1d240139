/- Joined. -/
import Derived.Test.YtjpjcjnacnlhdaaGreatPx0
import Derived.Test.YtjpjcjnacnlhdaaGreatPz0
set_option linter.unusedVariables false
namespace Go.Proofs.YtjpjcjnacnlhdaaGreat.X
open Go.RowKit
set_option maxRecDepth 100000
section
variable{k f:Nat}{fn:Func}
theorem rf0(t:FT)(h1:PG.funcs[f]?=some fn)(h:(fn.body.isSome&&tabOk t.sd t.sx (bodyOf fn)&&fnB PG SS EE TT k f t)=true):RK k:=rF2 mixed h1 h
theorem rl0{id:Nat}(t:FT)(h1:PG.funcs[f]?=some fn)(h:(isLoop1 (subs id (bodyOf fn))&&tabOk t.sd t.sx (lb fn id)&&lpC PG SS EE TT k f id fn t)=true):RK k:=rL2 mixed h1 h
end
theorem ru0:RK 0:=rf0 t124 f124_at (by kernel_rfl)
theorem ru1:RK 1:=rl0 (id:=0) t124 f124_at (by kernel_rfl)
theorem ru2:RK 2:=rl0 (id:=0) t124 f124_at (by kernel_rfl)
theorem ru3:RK 3:=rl0 (id:=0) t124 f124_at (by kernel_rfl)
theorem ru4:RK 4:=rf0 t125 f125_at (by kernel_rfl)
theorem ru5:RK 5:=rf0 t127 f127_at (by kernel_rfl)
theorem ru6:RK 6:=rf0 t130 f130_at (by kernel_rfl)
theorem ru7:RK 7:=rf0 t131 f131_at (by kernel_rfl)
theorem ru8:RK 8:=rf0 t132 f132_at (by kernel_rfl)
theorem ru9:RK 9:=rf0 t133 f133_at (by kernel_rfl)
theorem ru10:RK 10:=rf0 t134 f134_at (by kernel_rfl)
theorem ru11:RK 11:=rf0 t147 f147_at (by kernel_rfl)
theorem ru12:RK 12:=rl0 (id:=0) t147 f147_at (by kernel_rfl)
theorem ru13:RK 13:=rf0 t148 f148_at (by kernel_rfl)
theorem ru14:RK 14:=rf0 t150 f150_at (by kernel_rfl)
theorem ru15:RK 15:=rl0 (id:=0) t150 f150_at (by kernel_rfl)
theorem ru16:RK 16:=rf0 t126 f126_at (by kernel_rfl)
theorem ru17:RK 17:=rl0 (id:=0) t126 f126_at (by kernel_rfl)
theorem ru18:RK 18:=rl0 (id:=0) t126 f126_at (by kernel_rfl)
theorem ru19:RK 19:=rf0 t128 f128_at (by kernel_rfl)
theorem ru20:RK 20:=rl0 (id:=0) t128 f128_at (by kernel_rfl)
theorem ru21:RK 21:=rf0 t98 f98_at (by kernel_rfl)
theorem ru22:RK 22:=rl0 (id:=0) t98 f98_at (by kernel_rfl)
theorem ru23:RK 23:=rf0 t99 f99_at (by kernel_rfl)
theorem ru24:RK 24:=rl0 (id:=0) t99 f99_at (by kernel_rfl)
theorem ru25:RK 25:=rl0 (id:=2) t99 f99_at (by kernel_rfl)
theorem ru26:RK 26:=rf0 t129 f129_at (by kernel_rfl)
theorem ru27:RK 27:=rl0 (id:=0) t129 f129_at (by kernel_rfl)
theorem ru28:RK 28:=rl0 (id:=0) t129 f129_at (by kernel_rfl)
theorem ru29:RK 29:=rl0 (id:=2) t129 f129_at (by kernel_rfl)
theorem ru30:RK 30:=rl0 (id:=2) t129 f129_at (by kernel_rfl)
theorem ru31:RK 31:=rf0 t149 f149_at (by kernel_rfl)
theorem ru32:RK 32:=rf0 t149 f149_at (by kernel_rfl)
theorem ru33:RK 33:=rf0 t152 f152_at (by kernel_rfl)
theorem ru34:RK 34:=rf0 t153 f153_at (by kernel_rfl)
theorem ru35:RK 35:=rf0 t155 f155_at (by kernel_rfl)
theorem ru36:RK 36:=rf0 t156 f156_at (by kernel_rfl)
theorem ru37:RK 37:=rf0 t65 f65_at (by kernel_rfl)
theorem ru38:RK 38:=rl0 (id:=0) t65 f65_at (by kernel_rfl)
theorem ru39:RK 39:=rl0 (id:=0) t65 f65_at (by kernel_rfl)
theorem ru40:RK 40:=rf0 t100 f100_at (by kernel_rfl)
theorem ru41:RK 41:=rl0 (id:=0) t100 f100_at (by kernel_rfl)
theorem ru42:RK 42:=rf0 t104 f104_at (by kernel_rfl)
theorem ru43:RK 43:=rl0 (id:=0) t104 f104_at (by kernel_rfl)
set_option maxRecDepth 100000
section
variable{k f:Nat}{fn:Func}
theorem rf1(t:FT)(h1:PG.funcs[f]?=some fn)(h:(fn.body.isSome&&tabOk t.sd t.sx (bodyOf fn)&&fnB PG SS EE TT k f t)=true):RK k:=rF2 mixed h1 h
theorem rl1{id:Nat}(t:FT)(h1:PG.funcs[f]?=some fn)(h:(isLoop1 (subs id (bodyOf fn))&&tabOk t.sd t.sx (lb fn id)&&lpC PG SS EE TT k f id fn t)=true):RK k:=rL2 mixed h1 h
end
theorem ru44:RK 44:=rf1 t103 f103_at (by kernel_rfl)
theorem ru45:RK 45:=rl1 (id:=0) t103 f103_at (by kernel_rfl)
theorem ru46:RK 46:=rl1 (id:=2) t103 f103_at (by kernel_rfl)
theorem ru47:RK 47:=rf1 t137 f137_at (by kernel_rfl)
theorem ru48:RK 48:=rl1 (id:=0) t137 f137_at (by kernel_rfl)
theorem ru49:RK 49:=rl1 (id:=2) t137 f137_at (by kernel_rfl)
theorem ru50:RK 50:=rf1 t138 f138_at (by kernel_rfl)
theorem ru51:RK 51:=rf1 t28 f28_at (by kernel_rfl)
theorem ru52:RK 52:=rf1 t7 f7_at (by kernel_rfl)
theorem ru53:RK 53:=rl1 (id:=0) t7 f7_at (by kernel_rfl)
theorem ru54:RK 54:=rl1 (id:=0) t7 f7_at (by kernel_rfl)
theorem ru55:RK 55:=rl1 (id:=0) t7 f7_at (by kernel_rfl)
theorem ru56:RK 56:=rl1 (id:=0) t7 f7_at (by kernel_rfl)
theorem ru57:RK 57:=rl1 (id:=0) t7 f7_at (by kernel_rfl)
theorem ru58:RK 58:=rl1 (id:=0) t7 f7_at (by kernel_rfl)
theorem ru59:RK 59:=rl1 (id:=0) t7 f7_at (by kernel_rfl)
theorem ru60:RK 60:=rl1 (id:=0) t7 f7_at (by kernel_rfl)
theorem ru61:RK 61:=rl1 (id:=0) t7 f7_at (by kernel_rfl)
theorem ru62:RK 62:=rl1 (id:=0) t7 f7_at (by kernel_rfl)
theorem ru63:RK 63:=rl1 (id:=0) t7 f7_at (by kernel_rfl)
theorem ru64:RK 64:=rl1 (id:=0) t7 f7_at (by kernel_rfl)
theorem ru65:RK 65:=rl1 (id:=0) t7 f7_at (by kernel_rfl)
theorem ru66:RK 66:=rl1 (id:=0) t7 f7_at (by kernel_rfl)
theorem ru67:RK 67:=rl1 (id:=0) t7 f7_at (by kernel_rfl)
theorem ru68:RK 68:=rl1 (id:=0) t7 f7_at (by kernel_rfl)
theorem ru69:RK 69:=rf1 t66 f66_at (by kernel_rfl)
theorem ru70:RK 70:=rf1 t29 f29_at (by kernel_rfl)
theorem ru71:RK 71:=rf1 t30 f30_at (by kernel_rfl)
theorem ru72:RK 72:=rf1 t31 f31_at (by kernel_rfl)
theorem ru73:RK 73:=rl1 (id:=0) t31 f31_at (by kernel_rfl)
theorem ru74:RK 74:=rl1 (id:=0) t31 f31_at (by kernel_rfl)
theorem ru75:RK 75:=rl1 (id:=2) t31 f31_at (by kernel_rfl)
theorem ru76:RK 76:=rl1 (id:=2) t31 f31_at (by kernel_rfl)
theorem ru77:RK 77:=rl1 (id:=2) t31 f31_at (by kernel_rfl)
theorem ru78:RK 78:=rl1 (id:=2) t31 f31_at (by kernel_rfl)
theorem ru79:RK 79:=rl1 (id:=2) t31 f31_at (by kernel_rfl)
theorem ru80:RK 80:=rl1 (id:=2) t31 f31_at (by kernel_rfl)
theorem ru81:RK 81:=rl1 (id:=4) t31 f31_at (by kernel_rfl)
theorem ru82:RK 82:=rl1 (id:=4) t31 f31_at (by kernel_rfl)
theorem ru83:RK 83:=rl1 (id:=4) t31 f31_at (by kernel_rfl)
theorem ru84:RK 84:=rl1 (id:=4) t31 f31_at (by kernel_rfl)
theorem ru85:RK 85:=rl1 (id:=4) t31 f31_at (by kernel_rfl)
theorem ru86:RK 86:=rl1 (id:=4) t31 f31_at (by kernel_rfl)
theorem ru87:RK 87:=rl1 (id:=4) t31 f31_at (by kernel_rfl)
set_option maxRecDepth 100000
section
variable{k f:Nat}{fn:Func}
theorem rf2(t:FT)(h1:PG.funcs[f]?=some fn)(h:(fn.body.isSome&&tabOk t.sd t.sx (bodyOf fn)&&fnB PG SS EE TT k f t)=true):RK k:=rF2 mixed h1 h
theorem rl2{id:Nat}(t:FT)(h1:PG.funcs[f]?=some fn)(h:(isLoop1 (subs id (bodyOf fn))&&tabOk t.sd t.sx (lb fn id)&&lpC PG SS EE TT k f id fn t)=true):RK k:=rL2 mixed h1 h
end
theorem ru88:RK 88:=rl2 (id:=4) t31 f31_at (by kernel_rfl)
theorem ru89:RK 89:=rf2 t34 f34_at (by kernel_rfl)
theorem ru90:RK 90:=rf2 t32 f32_at (by kernel_rfl)
theorem ru91:RK 91:=rl2 (id:=0) t32 f32_at (by kernel_rfl)
theorem ru92:RK 92:=rl2 (id:=0) t32 f32_at (by kernel_rfl)
theorem ru93:RK 93:=rl2 (id:=0) t32 f32_at (by kernel_rfl)
theorem ru94:RK 94:=rl2 (id:=0) t32 f32_at (by kernel_rfl)
theorem ru95:RK 95:=rf2 t33 f33_at (by kernel_rfl)
theorem ru96:RK 96:=rl2 (id:=0) t33 f33_at (by kernel_rfl)
theorem ru97:RK 97:=rl2 (id:=0) t33 f33_at (by kernel_rfl)
theorem ru98:RK 98:=rl2 (id:=0) t33 f33_at (by kernel_rfl)
theorem ru99:RK 99:=rl2 (id:=2) t33 f33_at (by kernel_rfl)
theorem ru100:RK 100:=rl2 (id:=2) t33 f33_at (by kernel_rfl)
theorem ru101:RK 101:=rl2 (id:=2) t33 f33_at (by kernel_rfl)
theorem ru102:RK 102:=rl2 (id:=2) t33 f33_at (by kernel_rfl)
theorem ru103:RK 103:=rf2 t35 f35_at (by kernel_rfl)
theorem ru104:RK 104:=rf2 t67 f67_at (by kernel_rfl)
theorem ru105:RK 105:=rf2 t70 f70_at (by kernel_rfl)
theorem ru106:RK 106:=rl2 (id:=0) t70 f70_at (by kernel_rfl)
theorem ru107:RK 107:=rl2 (id:=0) t70 f70_at (by kernel_rfl)
theorem ru108:RK 108:=rf2 t68 f68_at (by kernel_rfl)
theorem ru109:RK 109:=rf2 t69 f69_at (by kernel_rfl)
theorem ru110:RK 110:=rf2 t71 f71_at (by kernel_rfl)
theorem ru111:RK 111:=rf2 t72 f72_at (by kernel_rfl)
theorem ru112:RK 112:=rl2 (id:=0) t72 f72_at (by kernel_rfl)
theorem ru113:RK 113:=rl2 (id:=0) t72 f72_at (by kernel_rfl)
theorem ru114:RK 114:=rf2 t73 f73_at (by kernel_rfl)
theorem ru115:RK 115:=rl2 (id:=0) t73 f73_at (by kernel_rfl)
theorem ru116:RK 116:=rl2 (id:=0) t73 f73_at (by kernel_rfl)
theorem ru117:RK 117:=rf2 t101 f101_at (by kernel_rfl)
theorem ru118:RK 118:=rf2 t102 f102_at (by kernel_rfl)
theorem ru119:RK 119:=rl2 (id:=0) t102 f102_at (by kernel_rfl)
theorem ru120:RK 120:=rl2 (id:=0) t102 f102_at (by kernel_rfl)
theorem ru121:RK 121:=rl2 (id:=2) t102 f102_at (by kernel_rfl)
theorem ru122:RK 122:=rl2 (id:=2) t102 f102_at (by kernel_rfl)
theorem ru123:RK 123:=rf2 t135 f135_at (by kernel_rfl)
theorem ru124:RK 124:=rf2 t136 f136_at (by kernel_rfl)
theorem ru125:RK 125:=rl2 (id:=1) t136 f136_at (by kernel_rfl)
theorem ru126:RK 126:=rl2 (id:=1) t136 f136_at (by kernel_rfl)
theorem ru127:RK 127:=rl2 (id:=1) t136 f136_at (by kernel_rfl)
theorem ru128:RK 128:=rf2 t151 f151_at (by kernel_rfl)
theorem ru129:RK 129:=rl2 (id:=0) t151 f151_at (by kernel_rfl)
theorem ru130:RK 130:=rl2 (id:=0) t151 f151_at (by kernel_rfl)
theorem ru131:RK 131:=rl2 (id:=0) t151 f151_at (by kernel_rfl)
set_option maxRecDepth 100000
section
variable{k f:Nat}{fn:Func}
theorem rf3(t:FT)(h1:PG.funcs[f]?=some fn)(h:(fn.body.isSome&&tabOk t.sd t.sx (bodyOf fn)&&fnB PG SS EE TT k f t)=true):RK k:=rF2 mixed h1 h
theorem rl3{id:Nat}(t:FT)(h1:PG.funcs[f]?=some fn)(h:(isLoop1 (subs id (bodyOf fn))&&tabOk t.sd t.sx (lb fn id)&&lpC PG SS EE TT k f id fn t)=true):RK k:=rL2 mixed h1 h
end
theorem ru132:RK 132:=rl3 (id:=0) t151 f151_at (by kernel_rfl)
theorem ru133:RK 133:=rl3 (id:=0) t151 f151_at (by kernel_rfl)
theorem ru134:RK 134:=rf3 t154 f154_at (by kernel_rfl)
theorem ru135:RK 135:=rf3 t10 f10_at (by kernel_rfl)
theorem ru136:RK 136:=rf3 t11 f11_at (by kernel_rfl)
theorem ru137:RK 137:=rl3 (id:=0) t11 f11_at (by kernel_rfl)
theorem ru138:RK 138:=rl3 (id:=2) t11 f11_at (by kernel_rfl)
theorem ru139:RK 139:=rl3 (id:=4) t11 f11_at (by kernel_rfl)
theorem ru140:RK 140:=rf3 t25 f25_at (by kernel_rfl)
theorem ru141:RK 141:=rl3 (id:=0) t25 f25_at (by kernel_rfl)
theorem ru142:RK 142:=rf3 t46 f46_at (by kernel_rfl)
theorem ru143:RK 143:=rl3 (id:=0) t46 f46_at (by kernel_rfl)
theorem ru144:RK 144:=rf3 t47 f47_at (by kernel_rfl)
theorem ru145:RK 145:=rl3 (id:=0) t47 f47_at (by kernel_rfl)
theorem ru146:RK 146:=rf3 t48 f48_at (by kernel_rfl)
theorem ru147:RK 147:=rl3 (id:=0) t48 f48_at (by kernel_rfl)
theorem ru148:RK 148:=rf3 t49 f49_at (by kernel_rfl)
theorem ru149:RK 149:=rl3 (id:=0) t49 f49_at (by kernel_rfl)
theorem ru150:RK 150:=rf3 t88 f88_at (by kernel_rfl)
theorem ru151:RK 151:=rl3 (id:=0) t88 f88_at (by kernel_rfl)
theorem ru152:RK 152:=rf3 t89 f89_at (by kernel_rfl)
theorem ru153:RK 153:=rf3 t90 f90_at (by kernel_rfl)
theorem ru154:RK 154:=rl3 (id:=0) t90 f90_at (by kernel_rfl)
theorem ru155:RK 155:=rl3 (id:=2) t90 f90_at (by kernel_rfl)
theorem ru156:RK 156:=rf3 t122 f122_at (by kernel_rfl)
theorem ru157:RK 157:=rl3 (id:=0) t122 f122_at (by kernel_rfl)
theorem ru158:RK 158:=RuleOk.weak (ek:=en158) (eb:=en42) (by kernel_rfl) (by kernel_rfl) rfl rfl rfl rfl rfl rfl rfl rfl rfl (by kernel_rfl)
theorem ru159:RK 159:=RuleOk.weak (ek:=en159) (eb:=en37) (by kernel_rfl) (by kernel_rfl) rfl rfl rfl rfl rfl rfl rfl rfl rfl (by kernel_rfl)
theorem ru160:RK 160:=RuleOk.weakD (ek:=en160) (eb:=en72) (by kernel_rfl) (by kernel_rfl) rfl rfl rfl rfl rfl ⟨_,rfl⟩ rfl rfl rfl (by kernel_rfl)
theorem ru161:RK 161:=RuleOk.weakD (ek:=en161) (eb:=en90) (by kernel_rfl) (by kernel_rfl) rfl rfl rfl rfl rfl ⟨_,rfl⟩ rfl rfl rfl (by kernel_rfl)
theorem ru162:RK 162:=RuleOk.weakD (ek:=en162) (eb:=en95) (by kernel_rfl) (by kernel_rfl) rfl rfl rfl rfl rfl ⟨_,rfl⟩ rfl rfl rfl (by kernel_rfl)
theorem ru163:RK 163:=RuleOk.weakD (ek:=en163) (eb:=en103) (by kernel_rfl) (by kernel_rfl) rfl rfl rfl rfl rfl ⟨_,rfl⟩ rfl rfl rfl (by kernel_rfl)
theorem ru164:RK 164:=RuleOk.weakD (ek:=en164) (eb:=en105) (by kernel_rfl) (by kernel_rfl) rfl rfl rfl rfl rfl ⟨_,rfl⟩ rfl rfl rfl (by kernel_rfl)
theorem ru165:RK 165:=RuleOk.weakD (ek:=en165) (eb:=en109) (by kernel_rfl) (by kernel_rfl) rfl rfl rfl rfl rfl ⟨_,rfl⟩ rfl rfl rfl (by kernel_rfl)
theorem ru166:RK 166:=RuleOk.weakD (ek:=en166) (eb:=en111) (by kernel_rfl) (by kernel_rfl) rfl rfl rfl rfl rfl ⟨_,rfl⟩ rfl rfl rfl (by kernel_rfl)
theorem ru167:RK 167:=RuleOk.weakD (ek:=en167) (eb:=en114) (by kernel_rfl) (by kernel_rfl) rfl rfl rfl rfl rfl ⟨_,rfl⟩ rfl rfl rfl (by kernel_rfl)
theorem ru168:RK 168:=RuleOk.weakD (ek:=en168) (eb:=en118) (by kernel_rfl) (by kernel_rfl) rfl rfl rfl rfl rfl ⟨_,rfl⟩ rfl rfl rfl (by kernel_rfl)
theorem ru169:RK 169:=RuleOk.weakD (ek:=en169) (eb:=en123) (by kernel_rfl) (by kernel_rfl) rfl rfl rfl rfl rfl ⟨_,rfl⟩ rfl rfl rfl (by kernel_rfl)
theorem ru170:RK 170:=RuleOk.weakD (ek:=en170) (eb:=en124) (by kernel_rfl) (by kernel_rfl) rfl rfl rfl rfl rfl ⟨_,rfl⟩ rfl rfl rfl (by kernel_rfl)
theorem ru171:RK 171:=RuleOk.weakD (ek:=en171) (eb:=en128) (by kernel_rfl) (by kernel_rfl) rfl rfl rfl rfl rfl ⟨_,rfl⟩ rfl rfl rfl (by kernel_rfl)
theorem ru172:RK 172:=RuleOk.weakD (ek:=en172) (eb:=en134) (by kernel_rfl) (by kernel_rfl) rfl rfl rfl rfl rfl ⟨_,rfl⟩ rfl rfl rfl (by kernel_rfl)
theorem ru173:RK 173:=RuleOk.weak (ek:=en173) (eb:=en52) (by kernel_rfl) (by kernel_rfl) rfl rfl rfl rfl rfl rfl rfl rfl rfl (by kernel_rfl)
set_option maxRecDepth 100000
theorem tabs:TabsOk PG SS EE:=TabsOk.of (by kernel_rfl) (by kernel_rfl) (by kernel_rfl)
theorem ru_0:AllK (RuleOk PG SS EE TT) 0:=trivial
theorem ru_20:AllK (RuleOk PG SS EE TT) 20:=⟨⟨⟨⟨⟨⟨⟨⟨⟨⟨⟨⟨⟨⟨⟨⟨⟨⟨⟨⟨ru_0,ru0⟩,ru1⟩,ru2⟩,ru3⟩,ru4⟩,ru5⟩,ru6⟩,ru7⟩,ru8⟩,ru9⟩,ru10⟩,ru11⟩,ru12⟩,ru13⟩,ru14⟩,ru15⟩,ru16⟩,ru17⟩,ru18⟩,ru19⟩
theorem ru_40:AllK (RuleOk PG SS EE TT) 40:=⟨⟨⟨⟨⟨⟨⟨⟨⟨⟨⟨⟨⟨⟨⟨⟨⟨⟨⟨⟨ru_20,ru20⟩,ru21⟩,ru22⟩,ru23⟩,ru24⟩,ru25⟩,ru26⟩,ru27⟩,ru28⟩,ru29⟩,ru30⟩,ru31⟩,ru32⟩,ru33⟩,ru34⟩,ru35⟩,ru36⟩,ru37⟩,ru38⟩,ru39⟩
theorem ru_60:AllK (RuleOk PG SS EE TT) 60:=⟨⟨⟨⟨⟨⟨⟨⟨⟨⟨⟨⟨⟨⟨⟨⟨⟨⟨⟨⟨ru_40,ru40⟩,ru41⟩,ru42⟩,ru43⟩,ru44⟩,ru45⟩,ru46⟩,ru47⟩,ru48⟩,ru49⟩,ru50⟩,ru51⟩,ru52⟩,ru53⟩,ru54⟩,ru55⟩,ru56⟩,ru57⟩,ru58⟩,ru59⟩
theorem ru_80:AllK (RuleOk PG SS EE TT) 80:=⟨⟨⟨⟨⟨⟨⟨⟨⟨⟨⟨⟨⟨⟨⟨⟨⟨⟨⟨⟨ru_60,ru60⟩,ru61⟩,ru62⟩,ru63⟩,ru64⟩,ru65⟩,ru66⟩,ru67⟩,ru68⟩,ru69⟩,ru70⟩,ru71⟩,ru72⟩,ru73⟩,ru74⟩,ru75⟩,ru76⟩,ru77⟩,ru78⟩,ru79⟩
theorem ru_100:AllK (RuleOk PG SS EE TT) 100:=⟨⟨⟨⟨⟨⟨⟨⟨⟨⟨⟨⟨⟨⟨⟨⟨⟨⟨⟨⟨ru_80,ru80⟩,ru81⟩,ru82⟩,ru83⟩,ru84⟩,ru85⟩,ru86⟩,ru87⟩,ru88⟩,ru89⟩,ru90⟩,ru91⟩,ru92⟩,ru93⟩,ru94⟩,ru95⟩,ru96⟩,ru97⟩,ru98⟩,ru99⟩
theorem ru_120:AllK (RuleOk PG SS EE TT) 120:=⟨⟨⟨⟨⟨⟨⟨⟨⟨⟨⟨⟨⟨⟨⟨⟨⟨⟨⟨⟨ru_100,ru100⟩,ru101⟩,ru102⟩,ru103⟩,ru104⟩,ru105⟩,ru106⟩,ru107⟩,ru108⟩,ru109⟩,ru110⟩,ru111⟩,ru112⟩,ru113⟩,ru114⟩,ru115⟩,ru116⟩,ru117⟩,ru118⟩,ru119⟩
theorem ru_140:AllK (RuleOk PG SS EE TT) 140:=⟨⟨⟨⟨⟨⟨⟨⟨⟨⟨⟨⟨⟨⟨⟨⟨⟨⟨⟨⟨ru_120,ru120⟩,ru121⟩,ru122⟩,ru123⟩,ru124⟩,ru125⟩,ru126⟩,ru127⟩,ru128⟩,ru129⟩,ru130⟩,ru131⟩,ru132⟩,ru133⟩,ru134⟩,ru135⟩,ru136⟩,ru137⟩,ru138⟩,ru139⟩
theorem ru_160:AllK (RuleOk PG SS EE TT) 160:=⟨⟨⟨⟨⟨⟨⟨⟨⟨⟨⟨⟨⟨⟨⟨⟨⟨⟨⟨⟨ru_140,ru140⟩,ru141⟩,ru142⟩,ru143⟩,ru144⟩,ru145⟩,ru146⟩,ru147⟩,ru148⟩,ru149⟩,ru150⟩,ru151⟩,ru152⟩,ru153⟩,ru154⟩,ru155⟩,ru156⟩,ru157⟩,ru158⟩,ru159⟩
theorem ru_174:AllK (RuleOk PG SS EE TT) 174:=⟨⟨⟨⟨⟨⟨⟨⟨⟨⟨⟨⟨⟨⟨ru_160,ru160⟩,ru161⟩,ru162⟩,ru163⟩,ru164⟩,ru165⟩,ru166⟩,ru167⟩,ru168⟩,ru169⟩,ru170⟩,ru171⟩,ru172⟩,ru173⟩
theorem noMore:∀k,174≤k→(EE k).base=none∧TT k=etNo:=fun k hk=>⟨by unfold EE;rw[nth_out dEn enL k (Nat.le_trans (by decide) hk)];rfl,by unfold TT;rw[nth_out etNo etL k (Nat.le_trans (by decide) hk)]⟩
theorem ev_sound{q:Q}{r:Rs}(h:ev q=some r)(hp:Pre EE q):SemQ PG SS EE q r∧Pst SS (EE q.k).fam r:=Evl.sound tabs ru_174.get noMore h hp
end Go.Proofs.YtjpjcjnacnlhdaaGreat.X
