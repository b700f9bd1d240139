import Derived.Test.YtfphhabaeggenaaGreatDoorBai
import Derived.Test.YtfphhabaeggenaaGreatDoorMz0
import Derived.KernelRfl
set_option linter.all false
namespace Go.Proofs.YtfphhabaeggenaaGreatDoor
open Go.RowKit
set_option maxRecDepth 100000
section
variable{k f:Nat}{fn:Func}
theorem Ai(t:FT)(h1:PG.funcs[f]? = some fn)(h:(fn.body.isSome&&tabOk t.sd t.sx (cO fn)&&fnB PG SS EE TT k f t)=true):RK k:=rF2 mixed h1 h
theorem rl3{id:Nat}(t:FT)(h1:PG.funcs[f]? = some fn)(h:(fV (subs id (cO fn))&&tabOk t.sd t.sx (lb fn id)&&lpC PG SS EE TT k f id fn t)=true):RK k:=rL2 mixed h1 h
end
theorem an8:RK 198:=Ai t162 Dr (by kernel_rfl)
theorem an7:RK 199:=rl3 (id:=0) t162 Dr (by kernel_rfl)
theorem an6:RK 200:=Ai acd Dq (by kernel_rfl)
theorem an5:RK 201:=rl3 (id:=0) acd Dq (by kernel_rfl)
theorem an4:RK 202:=Ai amm UQ (by kernel_rfl)
theorem an3:RK 203:=Ai t63 aaA (by kernel_rfl)
theorem an2:RK 204:=Ai aiH KM (by kernel_rfl)
theorem an1:RK 205:=Ai LX qp (by kernel_rfl)
theorem an0:RK 206:=rl3 (id:=0) LX qp (by kernel_rfl)
theorem anZ:RK 207:=Ai t173 Dp (by kernel_rfl)
theorem anY:RK 208:=rl3 (id:=0) t173 Dp (by kernel_rfl)
theorem anX:RK 209:=Ai t124 vZ (by kernel_rfl)
theorem anW:RK 210:=rl3 (id:=0) t124 vZ (by kernel_rfl)
theorem anV:RK 211:=Ai LX qp (by kernel_rfl)
theorem anU:RK 212:=rl3 (id:=0) LX qp (by kernel_rfl)
theorem anT:RK 213:=Ai au1 ae6 (by kernel_rfl)
theorem anS:RK 214:=Ai t64 akS (by kernel_rfl)
theorem anR:RK 215:=Ai avg afu (by kernel_rfl)
theorem anQ:RK 216:=Ai avf afs (by kernel_rfl)
theorem anP:RK 217:=Ai ab9 Dn (by kernel_rfl)
theorem anO:RK 218:=rl3 (id:=0) ab9 Dn (by kernel_rfl)
theorem anN:RK 219:=Ai t124 vZ (by kernel_rfl)
theorem anM:RK 220:=rl3 (id:=0) t124 vZ (by kernel_rfl)
theorem anL:RK 221:=Ai LX qp (by kernel_rfl)
theorem anK:RK 222:=rl3 (id:=0) LX qp (by kernel_rfl)
theorem anJ:RK 223:=Ai avc afo (by kernel_rfl)
theorem anI:RK 224:=Ai t117 afm (by kernel_rfl)
theorem anH:RK 225:=Ai avb afl (by kernel_rfl)
theorem anG:RK 226:=Ai ava afj (by kernel_rfl)
theorem anF:RK 227:=Ai t173 Dp (by kernel_rfl)
theorem anE:RK 228:=rl3 (id:=0) t173 Dp (by kernel_rfl)
theorem anD:RK 229:=Ai au3 ae9 (by kernel_rfl)
theorem anC:RK 230:=Ai au2 ae8 (by kernel_rfl)
theorem anB:RK 231:=Ai t171 ae7 (by kernel_rfl)
theorem anA:RK 232:=Ai t175 ae5 (by kernel_rfl)
theorem anz:RK 233:=Ai t3 asj (by kernel_rfl)
theorem anx:RK 234:=Ai t7 ahQ (by kernel_rfl)
theorem anp:RK 241:=aL.weakM (ek:=aid) (eb:=alm) (by kernel_rfl) (by kernel_rfl) rfl rfl rfl rfl rfl ⟨_,rfl⟩ rfl rfl rfl (by kernel_rfl) ⟨_,_,rfl⟩
theorem ano:RK 242:=aL.weakM (ek:=aic) (eb:=alk) (by kernel_rfl) (by kernel_rfl) rfl rfl rfl rfl rfl ⟨_,rfl⟩ rfl rfl rfl (by kernel_rfl) ⟨_,_,rfl⟩
theorem ann:RK 243:=aL.weakM (ek:=aib) (eb:=alj) (by kernel_rfl) (by kernel_rfl) rfl rfl rfl rfl rfl ⟨_,rfl⟩ rfl rfl rfl (by kernel_rfl) ⟨_,_,rfl⟩
theorem anm:RK 244:=aL.weakM (ek:=aia) (eb:=ali) (by kernel_rfl) (by kernel_rfl) rfl rfl rfl rfl rfl ⟨_,rfl⟩ rfl rfl rfl (by kernel_rfl) ⟨_,_,rfl⟩
theorem anl:RK 245:=aL.weakM (ek:=ah9) (eb:=alh) (by kernel_rfl) (by kernel_rfl) rfl rfl rfl rfl rfl ⟨_,rfl⟩ rfl rfl rfl (by kernel_rfl) ⟨_,_,rfl⟩
theorem ank:RK 246:=aL.weakM (ek:=ah8) (eb:=alg) (by kernel_rfl) (by kernel_rfl) rfl rfl rfl rfl rfl ⟨_,rfl⟩ rfl rfl rfl (by kernel_rfl) ⟨_,_,rfl⟩
theorem anj:RK 247:=aL.weakM (ek:=ah7) (eb:=alf) (by kernel_rfl) (by kernel_rfl) rfl rfl rfl rfl rfl ⟨_,rfl⟩ rfl rfl rfl (by kernel_rfl) ⟨_,_,rfl⟩
theorem ani:RK 248:=aL.weakM (ek:=ah6) (eb:=ale) (by kernel_rfl) (by kernel_rfl) rfl rfl rfl rfl rfl ⟨_,rfl⟩ rfl rfl rfl (by kernel_rfl) ⟨_,_,rfl⟩
theorem anh:RK 249:=aL.weakM (ek:=ah5) (eb:=ald) (by kernel_rfl) (by kernel_rfl) rfl rfl rfl rfl rfl ⟨_,rfl⟩ rfl rfl rfl (by kernel_rfl) ⟨_,_,rfl⟩
theorem ang:RK 250:=aL.weakM (ek:=ah4) (eb:=alc) (by kernel_rfl) (by kernel_rfl) rfl rfl rfl rfl rfl ⟨_,rfl⟩ rfl rfl rfl (by kernel_rfl) ⟨_,_,rfl⟩
theorem anf:RK 251:=aL.weakM (ek:=ah3) (eb:=alb) (by kernel_rfl) (by kernel_rfl) rfl rfl rfl rfl rfl ⟨_,rfl⟩ rfl rfl rfl (by kernel_rfl) ⟨_,_,rfl⟩
theorem ane:RK 252:=aL.weak (ek:=ah2) (eb:=aln) (by kernel_rfl) (by kernel_rfl) rfl rfl rfl rfl rfl rfl rfl rfl rfl (by kernel_rfl)
theorem anc:RK 253:=aL.weakM (ek:=ah1) (eb:=aaS) (by kernel_rfl) (by kernel_rfl) rfl rfl rfl rfl rfl ⟨_,rfl⟩ rfl rfl rfl (by kernel_rfl) ⟨_,_,rfl⟩
theorem anb:RK 254:=aL.weakM (ek:=ah0) (eb:=aaR) (by kernel_rfl) (by kernel_rfl) rfl rfl rfl rfl rfl ⟨_,rfl⟩ rfl rfl rfl (by kernel_rfl) ⟨_,_,rfl⟩
theorem ana:RK 255:=aL.weakM (ek:=ahZ) (eb:=aaQ) (by kernel_rfl) (by kernel_rfl) rfl rfl rfl rfl rfl ⟨_,rfl⟩ rfl rfl rfl (by kernel_rfl) ⟨_,_,rfl⟩
theorem am9:RK 256:=aL.weakM (ek:=ahY) (eb:=aaP) (by kernel_rfl) (by kernel_rfl) rfl rfl rfl rfl rfl ⟨_,rfl⟩ rfl rfl rfl (by kernel_rfl) ⟨_,_,rfl⟩
theorem am8:RK 257:=aL.weakM (ek:=ahX) (eb:=aaO) (by kernel_rfl) (by kernel_rfl) rfl rfl rfl rfl rfl ⟨_,rfl⟩ rfl rfl rfl (by kernel_rfl) ⟨_,_,rfl⟩
theorem am7:RK 258:=aL.weakM (ek:=ahW) (eb:=aaN) (by kernel_rfl) (by kernel_rfl) rfl rfl rfl rfl rfl ⟨_,rfl⟩ rfl rfl rfl (by kernel_rfl) ⟨_,_,rfl⟩
theorem am6:RK 259:=aL.weakM (ek:=ahV) (eb:=aaM) (by kernel_rfl) (by kernel_rfl) rfl rfl rfl rfl rfl ⟨_,rfl⟩ rfl rfl rfl (by kernel_rfl) ⟨_,_,rfl⟩
theorem am5:RK 260:=aL.weak (ek:=ahU) (eb:=aaL) (by kernel_rfl) (by kernel_rfl) rfl rfl rfl rfl rfl rfl rfl rfl rfl (by kernel_rfl)
end Go.Proofs.YtfphhabaeggenaaGreatDoor
