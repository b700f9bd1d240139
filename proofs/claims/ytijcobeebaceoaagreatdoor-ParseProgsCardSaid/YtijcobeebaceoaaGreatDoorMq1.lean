import Derived.Test.YtijcobeebaceoaaGreatDoorMz0
import Derived.KernelRfl
set_option linter.all false
namespace Go.Proofs.YtijcobeebaceoaaGreatDoor
open Go.RowKit
set_option maxRecDepth 100000
class Hb (α:Type) (β γ:outParam Type) where
 hb:(Q→Option Rs)→α→β→Prop
 L:α→γ
 M:β→γ
 ok:∀O q g,L q=M g→hb O q g
noncomputable instance:Hb (PV→Q) (PV→Sm) (PV→Sm):=⟨fun O q g=>∀a,body PG EE TT O (q a)=g a O,fun q a O=>body PG EE TT O (q a),fun g=>g,fun O q g h a=>congrFun (congrFun h a) O⟩
noncomputable instance:Hb (List (List PV)→Q) (PV→Sm) (List (List PV)→Sm):=⟨fun O q g=>∀a,body PG EE TT O (q a)=g (.rows a) O,fun q a O=>body PG EE TT O (q a),fun g a=>g (.rows a),fun O q g h a=>congrFun (congrFun h a) O⟩
instance {α β γ:Type} [Hb α β γ]:Hb (PV→α) (PV→β) (PV→γ):=⟨fun O q g=>∀a,Hb.hb O (q a) (g a),fun q a=>Hb.L (q a),fun g a=>Hb.M α (g a),fun O q g h a=>Hb.ok O _ _ (congrFun h a)⟩
instance {α β γ:Type} [Hb α β γ]:Hb (List (List PV)→α) (PV→β) (List (List PV)→γ):=⟨fun O q g=>∀a,Hb.hb O (q a) (g (.rows a)),fun q a=>Hb.L (q a),fun g a=>Hb.M α (g (.rows a)),fun O q g h a=>Hb.ok O _ _ (congrFun h a)⟩
abbrev HB{α β γ:Type}[Hb α β γ](q:α)(g:β):Prop:=∀O,Hb.hb O q g
class Dc (β:Type) where
 dc:Nat→List PV→β
noncomputable instance dc0:Dc Sm:=⟨fun n e=>dT 999 (n%64) (n/64) e⟩
noncomputable instance dc1 {β:Type} [Dc β]:Dc (PV→β):=⟨fun n e a=>Dc.dc n (a::e)⟩
@[simp] theorem auE(n:Nat)(e:List PV):Dc.dc (β:=Sm) n e=dT 999 (n%64) (n/64) e:=rfl
@[simp] theorem auD{β:Type}[Dc β](n:Nat)(e:List PV):Dc.dc (β:=PV→β) n e=fun a=>Dc.dc n (a::e):=rfl
theorem hbd{α β γ:Type}[Hb α β γ][Dc β](q:α){t:β}(k:Nat)(h:Dc.dc (jK 0 cdL k) []=t:=by dsimp)(hk:Hb.L q=Hb.M α (Dc.dc (jK 0 cdL k) []):=by kernel_rfl):HB q t:=fun O=>Hb.ok O q t (h ▸ hk)
theorem hb0(q:Q){t:Sm}(k:Nat)(h:dT 999 (jK 0 cdL k%64) (jK 0 cdL k/64) []=t:=by dsimp)(hk:(fun O=>body PG EE TT O q)=dT (T:=Sm) 999 (jK 0 cdL k%64) (jK 0 cdL k/64) []:=by kernel_rfl)(O):body PG EE TT O q=t O:=by rw[←h,←hk]
def h72:=hbd q72 0
def Iu:=hbd Ci 1
def qL:=hbd Gx 2
def sQ:=hbd Ch 3
def aiq:=hbd Xo 4
def sP:=hbd Xn 5
def sO:=hbd Xm 6
def Zy:=hbd Xl 7
def Zx:=hbd Xk 8
def aip:=hbd Xj 9
def Zw:=hbd Xi 11
def Zv:=hbd Xh 12
def Zu:=hbd Xg 15
def Zt:=hbd Xf 16
def h99:=hbd q99 17
def h74:=hbd q74 18
def h10:=hbd q10 19
def ais:=hbd acA 20
def sS:=hbd apv 21
def aeH:=hbd RD 22
def aeG:=hbd RB 23
def aeF:=hbd RA 24
def aeE:=hbd Ry 25
def aeD:=hbd Rx 26
def aeC:=hbd Rw 27
def aeB:=hbd Rv 28
def aeA:=hbd Rq 29
def aez:=hbd Rp 30
def aey:=hbd Ro 31
def aex:=hbd Rn 32
def aew:=hbd Rm 33
def aeu:=hbd Rk 34
def aes:=hbd Rj 35
def aer:=hbd Ri 36
def aep:=hbd Rh 37
def aqB:=hbd ahJ 38
def aqt:=hbd akI 39
def aqy:=hbd akK 40
def aqs:=hbd apo 41
def aej:=hbd QC 42
def aei:=hbd QB 43
def aeh:=hbd QA 44
def aeg:=hbd Qz 45
def aef:=hbd Qy 46
def aee:=hbd Qx 47
def aed:=hbd Qw 48
def aec:=hbd Qv 49
def aeb:=hbd Qu 50
def aea:=hbd Qt 51
def ad9:=hbd Qs 52
def ad8:=hbd Qr 53
def ad7:=hbd Qq 54
def ad6:=hbd Qp 55
def aqo:=hbd akH 56
def aqr:=hbd apn 57
def ad5:=hbd Qo 58
def ad4:=hbd Qn 59
def ad3:=hbd Qm 60
def ad2:=hbd Ql 61
def ad1:=hbd Qk 62
def adZ:=hbd Qj 63
def adY:=hbd Qi 64
def adX:=hbd Qh 65
def aqp:=hbd apm 66
def adW:=hbd Qg 67
def adV:=hbd Qf 68
def adU:=hbd Qe 69
def adT:=hbd Qd 70
def adS:=hbd Qc 71
def adR:=hbd Qb 72
def aqn:=hbd apl 73
def aqh:=hbd akD 74
def aqi:=hbd akE 75
def aqc:=hbd akA 76
def aqb:=hbd acs 77
def adO:=hbd P6 78
def adN:=hbd P5 79
def aqd:=hbd akB 80
def aqe:=hbd apj 81
def h87a:=hbd akz 82
def aqL:=hbd apw 83
def aqC:=hbd apt 84
def aeo:=hbd QI 85
def aen:=hbd QH 86
def SV:=hbd GH 87
def Iz:=hbd GD 88
def aem:=hbd QG 89
def SQ:=hbd GA 90
def SN:=hbd QF 92
def aqA:=hbd akL 93
def aqz:=hbd aps 94
def ael:=hbd QE 95
def aek:=hbd QD 96
def aqj:=hbd apk 97
def adQ:=hbd P8 98
def adP:=hbd P7 99
def ap9:=hbd apg 100
def SB:=hbd PU 101
def SA:=hbd PS 102
def adL:=hbd PO 103
def Sz:=hbd PN 104
def ap8:=hbd apf 105
def adK:=hbd PK 106
def adJ:=hbd PI 107
def adI:=hbd PE 108
def adH:=hbd PD 109
def ap7:=hbd ape 110
def ap6:=hbd aky 111
def ame:=hbd akV 112
def aao:=hbd KE 113
def aan:=hbd KD 114
def amd:=hbd akU 115
def amc:=hbd akP 116
def aai:=hbd Kv 117
def aah:=hbd Ku 119
def aag:=hbd Kt 120
def aaf:=hbd Kr 121
def ama:=hbd afX 122
def al9:=hbd afW 123
def h11:=hbd q11 124
def D6:=hbd Yd 125
def D5:=hbd Yc 126
def DZ:=hbd Yb 127
def DY:=hbd Ya 128
def DX:=hbd X9 129
def DW:=hbd X8 130
def DV:=hbd X7 131
def DU:=hbd X6 132
def DT:=hbd X5 133
def DN:=hbd X4 134
def DK:=hbd X3 135
def DJ:=hbd X0 136
def DI:=hbd XZ 137
def DF:=hbd XY 138
def DC:=hbd XW 139
def Dz:=hbd XV 140
def h22:=hbd q22 141
def h89:=hbd q89 143
def Oa:=hbd Xb 144
def Zr:=hbd Xa 145
def h90:=hbd q90 146
def N8:=hbd W9 147
def aqT:=hbd akX 148
def IY:=hbd RQ 149
def IX:=hbd RP 150
def aqS:=hbd akW 151
def aqJ:=hbd ahQ 152
def aqI:=hbd ahP 153
def aqH:=hbd ahO 154
def Tj:=hbd GN 155
def IQ:=hbd Rb 156
def IL:=hbd Ra 157
def IK:=hbd Q9 158
def Ti:=hbd Q8 159
def Tg:=hbd acz 160
def Tf:=hbd Q7 161
def Te:=hbd acy 162
def Td:=hbd Q6 163
def Tc:=hbd Q5 164
def Ta:=hbd QZ 165
def S9:=hbd QY 166
def IJ:=hbd QX 167
def II:=hbd QW 168
def IG:=hbd QV 169
def IE:=hbd QU 170
def aqK:=hbd ahR 171
def aqG:=hbd ahN 172
def Bh:=hbd QT 173
def Bg:=hbd QS 175
def Bf:=hbd QR 176
def Be:=hbd QO 179
def aqF:=hbd ahM 181
def IC:=hbd GL 182
def SY:=hbd QN 183
def SX:=hbd acw 184
def IB:=hbd QM 185
def IA:=hbd QL 186
def Bc:=hbd QK 187
def Bb:=hbd QJ 188
def aqE:=hbd ahL 189
def aqw:=hbd ahH 190
def al7:=hbd acB 191
def Tm:=hbd GQ 192
def IU:=hbd RF 193
def aqm:=hbd ahE 194
def alT:=hbd ahD 195
def SL:=hbd Gz 196
def Iy:=hbd Qa 197
def alZ:=hbd akJ 198
def aqu:=hbd ahF 199
def alS:=hbd akG 200
def alR:=hbd acv 201
def SK:=hbd Gy 202
def Iw:=hbd P9 203
def aqv:=hbd ahG 204
def aqa:=hbd ahB 205
def SI:=hbd Gw 206
def SH:=hbd Gv 207
def Ip:=hbd PZ 208
def Io:=hbd PY 209
def SG:=hbd PX 210
def Im:=hbd PW 211
def aga:=hbd KG 212
def amf:=hbd XT 213
def Dy:=hbd Co 214
def xK:=hbd KF 215
def Lu:=hbd Cm 216
def af9:=hbd RO 217
def Ls:=hbd Ck 218
def aal:=hbd KC 220
def aak:=hbd KA 221
def Dx:=hbd Ky 222
def amb:=hbd afY 223
def h48:=hbd q48 224
def Od:=hbd Nn 225
def Oc:=hbd Cj 226
def h83:=hbd q83 227
def Ir:=hbd Nl 228
def h84:=hbd q84 229
def Dw:=hbd Xe 230
def Iq:=hbd Nk 231
def h85:=hbd q85 232
def Ob:=hbd Xd 233
def h112:=hbd ak7 234
def Bt:=hbd xg 235
def Br:=hbd xf 236
def Bq:=hbd xe 237
def aqZ:=hbd ak6 238
def aiB:=hbd ak5 239
def qM:=hbd RS 240
def oG:=hbd tY 241
def aqY:=hbd ak4 242
def h116:=hbd acC 243
def jU:=hbd AF 244
def aiA:=hbd ahS 245
def IZ:=hbd G6 247
def Bp:=hbd G5 249
def aqX:=hbd ak3 250
def h119:=hbd ak2 251
def aqV:=hbd ak0 252
def aqU:=hbd akZ 253
def h122:=hbd akY 254
def aqR:=hbd akS 255
def Bo:=hbd GZ 256
def aqQ:=hbd akR 257
def aiw:=hbd XO 259
def aqP:=hbd akQ 260
def Bn:=hbd GY 261
def aqO:=hbd akO 263
def aqN:=hbd akN 264
def aqM:=hbd akM 265
def h12:=hbd q12 266
def Oi:=hbd vH 267
def Oh:=hbd vG 268
def Og:=hbd vF 269
def yw:=hbd q34 270
def ZW:=hbd yQ 271
def h35:=hbd q35 272
def ZV:=hbd yP 273
def h36:=hbd q36 274
def ZU:=hbd yO 275
def h37:=hbd q37 276
def Oe:=hbd vE 277
def h64:=hbd q64 278
def ZM:=hbd yN 279
def h65:=hbd q65 280
def ZL:=hbd yM 281
def ZK:=hbd yL 282
def h91:=hbd q91 283
def Zq:=hbd yK 284
def h9:=hbd q9 285
def h25:=hbd q25 286
def ZX:=hbd yR 287
def h13:=hbd q13 288
def aam:=hbd yU 289
def EY:=hbd q14 290
def IW:=hbd yT 291
def aae:=hbd XK 292
def aad:=hbd GX 293
def aac:=hbd XJ 294
def IV:=hbd yS 295
def Z9:=hbd GV 296
def Z8:=hbd XI 297
def Z7:=hbd XH 298
def Z6:=hbd GU 299
def Z5:=hbd XG 300
def Z4:=hbd GR 301
def Z0:=hbd XF 302
def Bl:=hbd tX 303
def TB:=hbd AB 304
def TA:=hbd RN 305
def Tz:=hbd RJ 306
def Tw:=hbd AA 307
def Tv:=hbd RI 308
def Bj:=hbd tV 309
def Tq:=hbd Az 310
def Tp:=hbd RH 311
def Tn:=hbd RG 312
def h38:=hbd q38 313
def ZT:=hbd GK 314
def ZR:=hbd XC 315
def ZQ:=hbd GJ 316
def ZP:=hbd XB 317
def ZO:=hbd GI 318
def ZN:=hbd XA 319
def h66:=hbd q66 320
def ZJ:=hbd Xz 321
def ZI:=hbd Xy 322
def ZH:=hbd Xx 323
def ZG:=hbd Xw 324
def ZF:=hbd Xv 325
def ZE:=hbd Xu 326
def ZC:=hbd Xt 327
def ZB:=hbd Xr 328
def h67:=hbd q67 329
def ZA:=hbd Xq 330
def Zz:=hbd Xp 331
def h4:=hbd q4 332
def h5:=hb0 q5 333
def h16:=hb0 q16 334
def h17:=hb0 q17 335
def h18:=hb0 q18 336
variable(O:Q→Option Rs)
theorem h6:body PG EE TT O q6=aat (Vl []):=by kernel_rfl
theorem h15:body PG EE TT O q15=aat (Vl []):=by kernel_rfl
theorem h42(a):body PG EE TT O (q42 a)=aat (Ww [a]):=by kernel_rfl
theorem al6(a b c):body PG EE TT O (Rc a b c)=weakM [0,0,0,0,0,0,0,0,0,0,0,0,0,0,0,0,1] (O ⟨21,[a,b,c]⟩):=by kernel_rfl
theorem alX(a b c):body PG EE TT O (afM a b c)=weakM [0,1,0,0,0,0,0,0,0] (O ⟨41,[a,b,c]⟩):=by kernel_rfl
theorem alW(a b c):body PG EE TT O (afL a b c)=weakM [0,0,0,0,1,0,0,0,0] (O ⟨57,[a,b,c]⟩):=by kernel_rfl
theorem alV(a b c):body PG EE TT O (afK a b c)=weakM [0,0,1,0,0] (O ⟨66,[a,b,c]⟩):=by kernel_rfl
theorem alU(a b c):body PG EE TT O (afJ a b c)=weakM [0,1] (O ⟨73,[a,b,c]⟩):=by kernel_rfl
theorem af5(a b c):body PG EE TT O (Xc a b c)=weakM [0,1] (O ⟨77,[a,b,c]⟩):=by kernel_rfl
theorem alO(a b c):body PG EE TT O (afF a b c)=weakM [0,1] (O ⟨81,[a,b,c]⟩):=by kernel_rfl
theorem al8(a b c):body PG EE TT O (afV a b c)=weakM [0,1,0] (O ⟨83,[a,b,c]⟩):=by kernel_rfl
theorem al1(a b c):body PG EE TT O (afP a b c)=weakM [1,0] (O ⟨84,[a,b,c]⟩):=by kernel_rfl
theorem al0(a b c):body PG EE TT O (afO a b c)=weakM [0,1,0] (O ⟨94,[a,b,c]⟩):=by kernel_rfl
theorem alQ(a b c):body PG EE TT O (afG a b c)=weakM [0,1,0,0,0,0,0,0,0,0,0,0,0,0,0,0,0] (O ⟨97,[a,b,c]⟩):=by kernel_rfl
theorem aqf(a b c d e f g h i j k l m n o p q r s t u v w x y z):body PG EE TT O (akC a b c d e f g h i j k l m n o p q r s t u v w x y z)=mM (O ⟨18,[a,b,c,d,e,f,g,h,i,j,k,l,m,n,o,p,q,r,s,t,u,v,w,x,y,z]⟩):=by kernel_rfl
theorem alM(a b c d):body PG EE TT O (afD a b c d)=weakM [0,0,0,0,0,0,0,0,0,0,0,0,0,0,0,0,1] (O ⟨100,[a,b,c,d]⟩):=by kernel_rfl
theorem alL(a b c):body PG EE TT O (afC a b c)=weakM [0,1] (O ⟨105,[a,b,c]⟩):=by kernel_rfl
theorem alK(a b c):body PG EE TT O (afB a b c)=weakM [0,1] (O ⟨110,[a,b,c]⟩):=by kernel_rfl
theorem aiy(a b c d):body PG EE TT O (XQ a b c d)=weakM [0,1,0] (O ⟨112,[a,b,c,d]⟩):=by kernel_rfl
theorem aix(a b c d):body PG EE TT O (XP a b c d)=weakM [0,1,0] (O ⟨115,[a,b,c,d]⟩):=by kernel_rfl
theorem aiv(a b c):body PG EE TT O (XL a b c)=weakM [0,0,1] (O ⟨116,[a,b,c]⟩):=by kernel_rfl
theorem ZY(a b c):body PG EE TT O (XD a b c)=weakM [0,1] (O ⟨122,[a,b,c]⟩):=by kernel_rfl
theorem al5(a b c d e):body PG EE TT O (afT a b c d e)=weakD (O ⟨154,[a,b,c,d,e]⟩):=by kernel_rfl
theorem al4(a b c d e):body PG EE TT O (afS a b c d e)=weakD (O ⟨172,[a,b,c,d,e]⟩):=by kernel_rfl
theorem al3(a b c d e):body PG EE TT O (afR a b c d e)=weakD (O ⟨181,[a,b,c,d,e]⟩):=by kernel_rfl
theorem al2(a b c d e):body PG EE TT O (afQ a b c d e)=weakD (O ⟨189,[a,b,c,d,e]⟩):=by kernel_rfl
theorem aqx(a):body PG EE TT O (ahI a)=mM (O ⟨224,[a]⟩):=by kernel_rfl
theorem af8(a b c d e):body PG EE TT O (afU a b c d e)=weakD (O ⟨191,[a,b,c,d,e]⟩):=by kernel_rfl
theorem adM(a b c d):body PG EE TT O (acp a b c d)=mM (O ⟨146,[a,b,c,d]⟩):=by kernel_rfl
theorem af7(a b c d e):body PG EE TT O (afI a b c d e)=weakD (O ⟨195,[a,b,c,d,e]⟩):=by kernel_rfl
theorem alY(a b c d e):body PG EE TT O (afN a b c d e)=weakD (O ⟨199,[a,b,c,d,e]⟩):=by kernel_rfl
theorem af6(a b c d e):body PG EE TT O (afH a b c d e)=weakD (O ⟨201,[a,b,c,d,e]⟩):=by kernel_rfl
theorem alN(a b c d e):body PG EE TT O (afE a b c d e)=weakD (O ⟨205,[a,b,c,d,e]⟩):=by kernel_rfl
theorem aap(a b c d e f):body PG EE TT O (XU a b c d e f)=weakD (O ⟨212,[a,b,c,d,e,f]⟩):=by kernel_rfl
theorem aiz(a b c d e):body PG EE TT O (XR a b c d e)=weakD (O ⟨213,[a,b,c,d,e]⟩):=by kernel_rfl
theorem aaj(a b c d e):body PG EE TT O (XM a b c d e)=weakD (O ⟨217,[a,b,c,d,e]⟩):=by kernel_rfl
theorem ait(a b c d e):body PG EE TT O (XE a b c d e)=weakD (O ⟨223,[a,b,c,d,e]⟩):=by kernel_rfl
theorem aqD(a b c d e f g h i j k):body PG EE TT O (ahK a b c d e f g h i j k)=mM (O ⟨313,[a,b,c,d,e,f,g,h,i,j,k]⟩):=by kernel_rfl
theorem aql(a b c d e f g h i j k):body PG EE TT O (akF a b c d e f g h i j k)=mM (O ⟨320,[a,b,c,d,e,f,g,h,i,j,k]⟩):=by kernel_rfl
theorem aqk(a b c d e):body PG EE TT O (ahC a b c d e)=mM (O ⟨329,[a,b,c,d,e]⟩):=by kernel_rfl
theorem aqW(a):body PG EE TT O (UI a)=mM (O ⟨124,[a]⟩):=by kernel_rfl
theorem aiu(a b c d):body PG EE TT O (UH a b c d)=mM (O ⟨290,[a,b,c,d]⟩):=by kernel_rfl
end Go.Proofs.YtijcobeebaceoaaGreatDoor
