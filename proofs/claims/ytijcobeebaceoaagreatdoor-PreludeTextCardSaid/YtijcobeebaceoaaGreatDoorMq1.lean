import Derived.Test.YtijcobeebaceoaaGreatDoorMz0
import Derived.KernelRfl
set_option linter.unusedVariables false
set_option linter.defProp false
set_option linter.unusedSimpArgs false
set_option linter.unusedSectionVars false
namespace Go.Proofs.YtijcobeebaceoaaGreatDoor
open Go.RowKit
set_option maxRecDepth 100000
class Hb (α:Type) (β γ:outParam Type) where
 hb:(Q→Option Rs)→α→β→Prop
 L:α→γ
 M:β→γ
 ok:∀O q g,L q=M g→hb O q g
noncomputable instance:Hb (PV→Q) (PV→Sm) (PV→Sm):=⟨fun O q g=>∀a,body PG EE TT O (q a)=g a O,fun q a O=>body PG EE TT O (q a),fun g=>g,fun O q g h a=>congrFun (congrFun h a) O⟩
noncomputable instance:Hb (List (List PV)→Q) (PV→Sm) (List (List PV)→Sm):=⟨fun O q g=>∀a,body PG EE TT O (q a)=g (.rows a) O,fun q a O=>body PG EE TT O (q a),fun g a=>g (.rows a),fun O q g h a=>congrFun (congrFun h a) O⟩
instance {α β γ:Type} [Hb α β γ]:Hb (PV→α) (PV→β) (PV→γ):=⟨fun O q g=>∀a,Hb.hb O (q a) (g a),fun q a=>Hb.L (q a),fun g a=>Hb.M α (g a),fun O q g h a=>Hb.ok O _ _ (congrFun h a)⟩
instance {α β γ:Type} [Hb α β γ]:Hb (List (List PV)→α) (PV→β) (List (List PV)→γ):=⟨fun O q g=>∀a,Hb.hb O (q a) (g (.rows a)),fun q a=>Hb.L (q a),fun g a=>Hb.M α (g (.rows a)),fun O q g h a=>Hb.ok O _ _ (congrFun h a)⟩
abbrev HB{α β γ:Type}[Hb α β γ](q:α)(g:β):Prop:=∀O,Hb.hb O q g
class Dc (β:Type) where
 dc:Nat→List PV→β
noncomputable instance dc0:Dc Sm:=⟨fun n e=>dT 999 (n%64) (n/64) e⟩
noncomputable instance dc1 {β:Type} [Dc β]:Dc (PV→β):=⟨fun n e a=>Dc.dc n (a::e)⟩
@[simp] theorem auW(n:Nat)(e:List PV):Dc.dc (β:=Sm) n e=dT 999 (n%64) (n/64) e:=rfl
@[simp] theorem auV{β:Type}[Dc β](n:Nat)(e:List PV):Dc.dc (β:=PV→β) n e=fun a=>Dc.dc n (a::e):=rfl
theorem hbd{α β γ:Type}[Hb α β γ][Dc β](q:α){t:β}(k:Nat)(h:Dc.dc (jO 0 cdL k) []=t:=by dsimp)(hk:Hb.L q=Hb.M α (Dc.dc (jO 0 cdL k) []):=by kernel_rfl):HB q t:=fun O=>Hb.ok O q t (h ▸ hk)
theorem hb0(q:Q){t:Sm}(k:Nat)(h:dT 999 (jO 0 cdL k%64) (jO 0 cdL k/64) []=t:=by dsimp)(hk:(fun O=>body PG EE TT O q)=dT (T:=Sm) 999 (jO 0 cdL k%64) (jO 0 cdL k/64) []:=by kernel_rfl)(O):body PG EE TT O q=t O:=by rw[←h,←hk]
def h72:=hbd q72 0
def I7:=hbd Cz 1
def rq:=hbd GV 2
def tL:=hbd Cy 3
def aiq:=hbd Xy 4
def tK:=hbd Xx 5
def tJ:=hbd Xw 6
def ZM:=hbd Xv 7
def ZL:=hbd Xu 8
def aip:=hbd Xt 9
def ZK:=hbd Xr 11
def ZJ:=hbd Xq 12
def ZI:=hbd Xp 15
def ZH:=hbd Xo 16
def h99:=hbd q99 17
def h74:=hbd q74 18
def h10:=hbd q10 19
def ais:=hbd acM 20
def tN:=hbd apv 21
def aeS:=hbd RF 22
def aeR:=hbd RD 23
def aeQ:=hbd RB 24
def aeP:=hbd RA 25
def aeO:=hbd Ry 26
def aeN:=hbd Rx 27
def aeM:=hbd Rw 28
def aeL:=hbd Rv 29
def aeK:=hbd Rq 30
def aeJ:=hbd Rp 31
def aeI:=hbd Ro 32
def aeH:=hbd Rn 33
def aeG:=hbd Rm 34
def aeF:=hbd Rk 35
def aeE:=hbd Rj 36
def aeD:=hbd Ri 37
def aqD:=hbd ahK 38
def aqv:=hbd akB 39
def aqA:=hbd akD 40
def aqu:=hbd apo 41
def aex:=hbd QR 42
def aew:=hbd QO 43
def aeu:=hbd QN 44
def aes:=hbd QM 45
def aer:=hbd QL 46
def aep:=hbd QK 47
def aeo:=hbd QJ 48
def aen:=hbd QI 49
def aem:=hbd QH 50
def ael:=hbd QG 51
def aek:=hbd QF 52
def aej:=hbd QE 53
def aei:=hbd QD 54
def aeh:=hbd QC 55
def aqr:=hbd akA 56
def aqt:=hbd apn 57
def aeg:=hbd QB 58
def aef:=hbd QA 59
def aee:=hbd Qz 60
def aed:=hbd Qy 61
def aec:=hbd Qx 62
def aeb:=hbd Qw 63
def aea:=hbd Qv 64
def ad9:=hbd Qu 65
def aqs:=hbd apm 66
def ad8:=hbd Qt 67
def ad7:=hbd Qs 68
def ad6:=hbd Qr 69
def ad5:=hbd Qq 70
def ad4:=hbd Qp 71
def ad3:=hbd Qo 72
def aqp:=hbd apl 73
def aqj:=hbd akw 74
def aqk:=hbd akx 75
def aqe:=hbd akt 76
def aqd:=hbd acG 77
def adZ:=hbd Qj 78
def adY:=hbd Qi 79
def aqf:=hbd aku 80
def aqg:=hbd apj 81
def h87a:=hbd aks 82
def aqN:=hbd apw 83
def aqE:=hbd apt 84
def aeC:=hbd QX 85
def aeB:=hbd QW 86
def SX:=hbd G6 87
def Ja:=hbd G5 88
def aeA:=hbd QV 89
def SV:=hbd GZ 90
def SQ:=hbd QU 92
def aqC:=hbd akE 93
def aqB:=hbd aps 94
def aez:=hbd QT 95
def aey:=hbd QS 96
def aql:=hbd apk 97
def ad2:=hbd Ql 98
def ad1:=hbd Qk 99
def aqb:=hbd apg 100
def SG:=hbd Qd 101
def SB:=hbd Qc 102
def adW:=hbd Qb 103
def SA:=hbd Qa 104
def aqa:=hbd apf 105
def adV:=hbd P9 106
def adU:=hbd P8 107
def adT:=hbd P7 108
def adS:=hbd P6 109
def ap9:=hbd ape 110
def ap8:=hbd akr 111
def al8:=hbd akO 112
def aaB:=hbd K6 113
def aaA:=hbd K5 114
def al7:=hbd akN 115
def al6:=hbd akI 116
def aav:=hbd KX 117
def aau:=hbd KW 119
def aat:=hbd KV 120
def aas:=hbd KU 121
def al4:=hbd af4 122
def al3:=hbd af3 123
def h11:=hbd q11 124
def El:=hbd Ym 125
def Ej:=hbd Yl 126
def Ei:=hbd Yk 127
def Eh:=hbd Yj 128
def Eg:=hbd Yi 129
def Ef:=hbd Yh 130
def Ee:=hbd Yg 131
def Ed:=hbd Yf 132
def Ec:=hbd Ye 133
def Eb:=hbd Yd 134
def Ea:=hbd Yc 135
def D9:=hbd Yb 136
def D8:=hbd Ya 137
def D7:=hbd X9 138
def D6:=hbd X8 139
def D5:=hbd X7 140
def h22:=hbd q22 141
def h89:=hbd q89 143
def Oy:=hbd Xk 144
def ZG:=hbd Xj 145
def h90:=hbd q90 146
def Ox:=hbd Xi 147
def aqV:=hbd akQ 148
def Jo:=hbd RS 149
def Jm:=hbd RQ 150
def aqU:=hbd akP 151
def aqL:=hbd ahR 152
def aqK:=hbd ahQ 153
def aqJ:=hbd ahP 154
def Tf:=hbd Hw 155
def Ji:=hbd Rc 156
def yc:=hbd Hu 157
def xZ:=hbd Ht 158
def BG:=hbd Rb 159
def BF:=hbd acL 160
def BD:=hbd Ra 161
def BB:=hbd acK 162
def Te:=hbd Hr 163
def Td:=hbd Hq 164
def Tc:=hbd Ho 165
def Ta:=hbd Hl 166
def Jh:=hbd Q9 167
def Jg:=hbd Q8 168
def Jf:=hbd Q7 169
def Je:=hbd Q6 170
def aqM:=hbd ahS 171
def aqI:=hbd ahO 172
def BA:=hbd uw 173
def Bz:=hbd oK 175
def Bw:=hbd oH 176
def Bv:=hbd l8 179
def aqH:=hbd ahN 181
def Jd:=hbd Hg 182
def S9:=hbd Q5 183
def SY:=hbd acJ 184
def Jc:=hbd Hf 185
def Jb:=hbd He 186
def Bu:=hbd QZ 187
def Bt:=hbd QY 188
def aqG:=hbd ahM 189
def aqy:=hbd ahI 190
def al1:=hbd acN 191
def Tg:=hbd Hy 192
def Jj:=hbd RG 193
def aqo:=hbd ahF 194
def alM:=hbd ahE 195
def SN:=hbd GY 196
def I9:=hbd Qn 197
def alT:=hbd akC 198
def aqw:=hbd ahG 199
def alL:=hbd akz 200
def alK:=hbd acI 201
def SL:=hbd GX 202
def I8:=hbd Qm 203
def aqx:=hbd ahH 204
def aqc:=hbd ahC 205
def SK:=hbd GU 206
def SI:=hbd GR 207
def I4:=hbd Qh 208
def IZ:=hbd Qg 209
def SH:=hbd Qf 210
def IY:=hbd Qe 211
def agi:=hbd K8 212
def al9:=hbd X5 213
def DZ:=hbd CJ 214
def yg:=hbd K7 215
def L9:=hbd CG 216
def agh:=hbd RP 217
def L8:=hbd CF 218
def aay:=hbd K4 220
def aax:=hbd KZ 221
def DY:=hbd KY 222
def al5:=hbd af5 223
def h48:=hbd q48 224
def OB:=hbd NK 225
def OA:=hbd CB 226
def h83:=hbd q83 227
def I6:=hbd NJ 228
def h84:=hbd q84 229
def DX:=hbd Xn 230
def I5:=hbd NI 231
def h85:=hbd q85 232
def Oz:=hbd Xm 233
def h112:=hbd ak0 234
def BO:=hbd xJ 235
def BN:=hbd xI 236
def BM:=hbd xH 237
def aq1:=hbd akZ 238
def aiB:=hbd akY 239
def rz:=hbd RU 240
def oZ:=hbd uE 241
def aq0:=hbd akX 242
def h116:=hbd acO 243
def jY:=hbd Bb 244
def aiA:=hbd ahT 245
def Jp:=hbd H9 247
def BL:=hbd H8 249
def aqZ:=hbd akW 250
def h119:=hbd akV 251
def aqX:=hbd akT 252
def aqW:=hbd akS 253
def h122:=hbd akR 254
def aqT:=hbd akL 255
def BK:=hbd H7 256
def aqS:=hbd akK 257
def aiw:=hbd XZ 259
def aqR:=hbd akJ 260
def BJ:=hbd H6 261
def aqQ:=hbd akH 263
def aqP:=hbd akG 264
def aqO:=hbd akF 265
def h12:=hbd q12 266
def OG:=hbd vX 267
def OE:=hbd vW 268
def OD:=hbd vV 269
def yM:=hbd q34 270
def aaf:=hbd zk 271
def h35:=hbd q35 272
def aae:=hbd zi 273
def h36:=hbd q36 274
def aad:=hbd zh 275
def h37:=hbd q37 276
def OC:=hbd vU 277
def h64:=hbd q64 278
def Z4:=hbd zf 279
def h65:=hbd q65 280
def Z0:=hbd ze 281
def ZY:=hbd zb 282
def h91:=hbd q91 283
def ZF:=hbd za 284
def h9:=hbd q9 285
def h25:=hbd q25 286
def aag:=hbd zl 287
def h13:=hbd q13 288
def aaz:=hbd zo 289
def Fw:=hbd q14 290
def Jl:=hbd zn 291
def aar:=hbd XV 292
def aaq:=hbd HZ 293
def aap:=hbd XU 294
def Jk:=hbd zm 295
def aao:=hbd HY 296
def aan:=hbd XT 297
def aam:=hbd XR 298
def aal:=hbd HV 299
def aak:=hbd XQ 300
def aaj:=hbd Hz 301
def aai:=hbd XP 302
def BI:=hbd uD 303
def Tw:=hbd Ba 304
def Tv:=hbd RO 305
def Tq:=hbd RN 306
def Tp:=hbd A9 307
def Tn:=hbd RJ 308
def BH:=hbd uy 309
def Tm:=hbd A8 310
def Tj:=hbd RI 311
def Ti:=hbd RH 312
def h38:=hbd q38 313
def aac:=hbd G9 314
def Z9:=hbd XL 315
def Z8:=hbd G8 316
def Z7:=hbd XK 317
def Z6:=hbd G7 318
def Z5:=hbd XJ 319
def Nb:=hbd q66 320
def ZX:=hbd XI 321
def ZW:=hbd XH 322
def ZV:=hbd XG 323
def ZU:=hbd XF 324
def ZT:=hbd XE 325
def ZR:=hbd XD 326
def ZQ:=hbd XC 327
def ZP:=hbd XB 328
def h67:=hbd q67 329
def ZO:=hbd XA 330
def ZN:=hbd Xz 331
def h4:=hbd q4 332
def h5:=hb0 q5 333
def h16:=hb0 q16 334
def h17:=hb0 q17 335
def h18:=hb0 q18 336
variable(O:Q→Option Rs)
theorem h6:body PG EE TT O q6=aaG (Vo []):=by kernel_rfl
theorem h15:body PG EE TT O q15=aaG (Vo []):=by kernel_rfl
theorem h42(a):body PG EE TT O (q42 a)=aaG (Wy [a]):=by kernel_rfl
theorem al0(a b c):body PG EE TT O (Rh a b c)=weakM [0,0,0,0,0,0,0,0,0,0,0,0,0,0,0,0,1] (O ⟨21,[a,b,c]⟩):=by kernel_rfl
theorem alR(a b c):body PG EE TT O (afS a b c)=weakM [0,1,0,0,0,0,0,0,0] (O ⟨41,[a,b,c]⟩):=by kernel_rfl
theorem alQ(a b c):body PG EE TT O (afR a b c)=weakM [0,0,0,0,1,0,0,0,0] (O ⟨57,[a,b,c]⟩):=by kernel_rfl
theorem alO(a b c):body PG EE TT O (afQ a b c)=weakM [0,0,1,0,0] (O ⟨66,[a,b,c]⟩):=by kernel_rfl
theorem alN(a b c):body PG EE TT O (afP a b c)=weakM [0,1] (O ⟨73,[a,b,c]⟩):=by kernel_rfl
theorem agb(a b c):body PG EE TT O (Xl a b c)=weakM [0,1] (O ⟨77,[a,b,c]⟩):=by kernel_rfl
theorem alI(a b c):body PG EE TT O (afL a b c)=weakM [0,1] (O ⟨81,[a,b,c]⟩):=by kernel_rfl
theorem al2(a b c):body PG EE TT O (af2 a b c)=weakM [0,1,0] (O ⟨83,[a,b,c]⟩):=by kernel_rfl
theorem alV(a b c):body PG EE TT O (afV a b c)=weakM [1,0] (O ⟨84,[a,b,c]⟩):=by kernel_rfl
theorem alU(a b c):body PG EE TT O (afU a b c)=weakM [0,1,0] (O ⟨94,[a,b,c]⟩):=by kernel_rfl
theorem alJ(a b c):body PG EE TT O (afM a b c)=weakM [0,1,0,0,0,0,0,0,0,0,0,0,0,0,0,0,0] (O ⟨97,[a,b,c]⟩):=by kernel_rfl
theorem aqh(a b c d e f g h i j k l m n o p q r s t u v w x y z):body PG EE TT O (akv a b c d e f g h i j k l m n o p q r s t u v w x y z)=mV (O ⟨18,[a,b,c,d,e,f,g,h,i,j,k,l,m,n,o,p,q,r,s,t,u,v,w,x,y,z]⟩):=by kernel_rfl
theorem alG(a b c d):body PG EE TT O (afJ a b c d)=weakM [0,0,0,0,0,0,0,0,0,0,0,0,0,0,0,0,1] (O ⟨100,[a,b,c,d]⟩):=by kernel_rfl
theorem alF(a b c):body PG EE TT O (afI a b c)=weakM [0,1] (O ⟨105,[a,b,c]⟩):=by kernel_rfl
theorem alE(a b c):body PG EE TT O (afH a b c)=weakM [0,1] (O ⟨110,[a,b,c]⟩):=by kernel_rfl
theorem aiy(a b c d):body PG EE TT O (X3 a b c d)=weakM [0,1,0] (O ⟨112,[a,b,c,d]⟩):=by kernel_rfl
theorem aix(a b c d):body PG EE TT O (X0 a b c d)=weakM [0,1,0] (O ⟨115,[a,b,c,d]⟩):=by kernel_rfl
theorem aiv(a b c):body PG EE TT O (XW a b c)=weakM [0,0,1] (O ⟨116,[a,b,c]⟩):=by kernel_rfl
theorem aah(a b c):body PG EE TT O (XM a b c)=weakM [0,1] (O ⟨122,[a,b,c]⟩):=by kernel_rfl
theorem alZ(a b c d e):body PG EE TT O (afZ a b c d e)=weakD (O ⟨154,[a,b,c,d,e]⟩):=by kernel_rfl
theorem alY(a b c d e):body PG EE TT O (afY a b c d e)=weakD (O ⟨172,[a,b,c,d,e]⟩):=by kernel_rfl
theorem alX(a b c d e):body PG EE TT O (afX a b c d e)=weakD (O ⟨181,[a,b,c,d,e]⟩):=by kernel_rfl
theorem alW(a b c d e):body PG EE TT O (afW a b c d e)=weakD (O ⟨189,[a,b,c,d,e]⟩):=by kernel_rfl
theorem aqz(a):body PG EE TT O (ahJ a)=mV (O ⟨224,[a]⟩):=by kernel_rfl
theorem agf(a b c d e):body PG EE TT O (af0 a b c d e)=weakD (O ⟨191,[a,b,c,d,e]⟩):=by kernel_rfl
theorem adX(a b c d):body PG EE TT O (acE a b c d)=mV (O ⟨146,[a,b,c,d]⟩):=by kernel_rfl
theorem agd(a b c d e):body PG EE TT O (afO a b c d e)=weakD (O ⟨195,[a,b,c,d,e]⟩):=by kernel_rfl
theorem alS(a b c d e):body PG EE TT O (afT a b c d e)=weakD (O ⟨199,[a,b,c,d,e]⟩):=by kernel_rfl
theorem agc(a b c d e):body PG EE TT O (afN a b c d e)=weakD (O ⟨201,[a,b,c,d,e]⟩):=by kernel_rfl
theorem alH(a b c d e):body PG EE TT O (afK a b c d e)=weakD (O ⟨205,[a,b,c,d,e]⟩):=by kernel_rfl
theorem aaC(a b c d e f):body PG EE TT O (X6 a b c d e f)=weakD (O ⟨212,[a,b,c,d,e,f]⟩):=by kernel_rfl
theorem aiz(a b c d e):body PG EE TT O (X4 a b c d e)=weakD (O ⟨213,[a,b,c,d,e]⟩):=by kernel_rfl
theorem aaw(a b c d e):body PG EE TT O (XY a b c d e)=weakD (O ⟨217,[a,b,c,d,e]⟩):=by kernel_rfl
theorem ait(a b c d e):body PG EE TT O (XO a b c d e)=weakD (O ⟨223,[a,b,c,d,e]⟩):=by kernel_rfl
theorem aqF(a b c d e f g h i j k):body PG EE TT O (ahL a b c d e f g h i j k)=mV (O ⟨313,[a,b,c,d,e,f,g,h,i,j,k]⟩):=by kernel_rfl
theorem aqn(a b c d e f g h i j k):body PG EE TT O (aky a b c d e f g h i j k)=mV (O ⟨320,[a,b,c,d,e,f,g,h,i,j,k]⟩):=by kernel_rfl
theorem aqm(a b c d e):body PG EE TT O (ahD a b c d e)=mV (O ⟨329,[a,b,c,d,e]⟩):=by kernel_rfl
theorem aqY(a):body PG EE TT O (UL a)=mV (O ⟨124,[a]⟩):=by kernel_rfl
theorem aiu(a b c d):body PG EE TT O (UK a b c d)=mV (O ⟨290,[a,b,c,d]⟩):=by kernel_rfl
end Go.Proofs.YtijcobeebaceoaaGreatDoor
