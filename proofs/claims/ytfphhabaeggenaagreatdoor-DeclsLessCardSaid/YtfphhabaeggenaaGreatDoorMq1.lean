import Derived.Test.YtfphhabaeggenaaGreatDoorMz0
import Derived.KernelRfl
set_option linter.all false
namespace Go.Proofs.YtfphhabaeggenaaGreatDoor
open Go.RowKit
set_option maxRecDepth 100000
class Hb (α:Type) (β γ:outParam Type) where
 hb:(Q→Option Rs)→α→β→Prop
 L:α→γ
 M:β→γ
 ok:∀O q g,L q=M g→hb O q g
noncomputable instance:Hb (PV→Q) (PV→Sm) (PV→Sm):=⟨fun O q g=>∀a,body PG EE TT O (q a)=g a O,fun q a O=>body PG EE TT O (q a),fun g=>g,fun O q g h a=>congrFun (congrFun h a) O⟩
noncomputable instance:Hb (List (List PV)→Q) (PV→Sm) (List (List PV)→Sm):=⟨fun O q g=>∀a,body PG EE TT O (q a)=g (.rows a) O,fun q a O=>body PG EE TT O (q a),fun g a=>g (.rows a),fun O q g h a=>congrFun (congrFun h a) O⟩
instance {α β γ:Type} [Hb α β γ]:Hb (PV→α) (PV→β) (PV→γ):=⟨fun O q g=>∀a,Hb.hb O (q a) (g a),fun q a=>Hb.L (q a),fun g a=>Hb.M α (g a),fun O q g h a=>Hb.ok O _ _ (congrFun h a)⟩
instance {α β γ:Type} [Hb α β γ]:Hb (List (List PV)→α) (PV→β) (List (List PV)→γ):=⟨fun O q g=>∀a,Hb.hb O (q a) (g (.rows a)),fun q a=>Hb.L (q a),fun g a=>Hb.M α (g (.rows a)),fun O q g h a=>Hb.ok O _ _ (congrFun h a)⟩
abbrev HB{α β γ:Type}[Hb α β γ](q:α)(g:β):Prop:=∀O,Hb.hb O q g
class Dc (β:Type) where
 dc:Nat→List PV→β
noncomputable instance dc0:Dc Sm:=⟨fun n e=>dT 999 (n%64) (n/64) e⟩
noncomputable instance dc1 {β:Type} [Dc β]:Dc (PV→β):=⟨fun n e a=>Dc.dc n (a::e)⟩
@[simp] theorem aB3(n:Nat)(e:List PV):Dc.dc (β:=Sm) n e=dT 999 (n%64) (n/64) e:=rfl
@[simp] theorem aB2{β:Type}[Dc β](n:Nat)(e:List PV):Dc.dc (β:=PV→β) n e=fun a=>Dc.dc n (a::e):=rfl
theorem hbd{α β γ:Type}[Hb α β γ][Dc β](q:α){t:β}(k:Nat)(h:Dc.dc (iE 0 cdL k) []=t:=by dsimp)(hk:Hb.L q=Hb.M α (Dc.dc (iE 0 cdL k) []):=by kernel_rfl):HB q t:=fun O=>Hb.ok O q t (h ▸ hk)
def h77:=hbd q77 0
def Km:=hbd Ei 1
def sM:=hbd JD 2
def uW:=hbd Eh 3
def akz:=hbd Yr 4
def uV:=hbd Yq 5
def uU:=hbd Yp 6
def ZX:=hbd Yo 7
def ZW:=hbd Yn 8
def aky:=hbd Ym 9
def ZV:=hbd Yl 11
def ZU:=hbd Yk 12
def ZT:=hbd Yj 15
def ZR:=hbd Yi 16
def ayn:=hbd ajK 17
def h79:=hbd q79 18
def h6:=hbd q6 19
def akE:=hbd acQ 20
def uY:=hbd axy 21
def aeR:=hbd TP 22
def aeQ:=hbd TN 23
def aeP:=hbd TM 24
def aeO:=hbd TL 25
def aeN:=hbd TK 26
def aeM:=hbd TJ 27
def aeL:=hbd TI 28
def aeK:=hbd TH 29
def aeJ:=hbd TG 30
def aeI:=hbd TF 31
def aeH:=hbd TD 32
def aeG:=hbd TB 33
def aeF:=hbd Tz 34
def aeE:=hbd Tw 35
def aeD:=hbd Tv 36
def aeC:=hbd Tq 37
def ayi:=hbd ajI 38
def ayh:=hbd ap7 39
def ayg:=hbd ap6 40
def ayf:=hbd axt 41
def aey:=hbd Tg 42
def aex:=hbd Tf 43
def aew:=hbd Te 44
def aeu:=hbd Td 45
def aes:=hbd Tc 46
def aer:=hbd Ta 47
def aep:=hbd S9 48
def aeo:=hbd SY 49
def aen:=hbd SX 50
def aem:=hbd SV 51
def ael:=hbd SQ 52
def aek:=hbd SN 53
def aej:=hbd SL 54
def aei:=hbd SK 55
def ayc:=hbd ap5 56
def aye:=hbd axs 57
def aeh:=hbd SI 58
def aeg:=hbd SH 59
def aef:=hbd SG 60
def aee:=hbd SB 61
def aed:=hbd SA 62
def aec:=hbd Sz 63
def aeb:=hbd Sy 64
def aea:=hbd Sw 65
def ayd:=hbd axr 66
def ad9:=hbd Sv 67
def ad8:=hbd Sr 68
def ad7:=hbd Sq 69
def ad6:=hbd Sn 70
def ad5:=hbd Sl 71
def ad4:=hbd Sk 72
def ayb:=hbd axq 73
def ax3:=hbd apX 74
def ax4:=hbd apY 75
def ax0:=hbd apV 76
def axX:=hbd acP 77
def ad1:=hbd Sd 78
def adZ:=hbd Sb 79
def axZ:=hbd apU 80
def axY:=hbd axo 81
def asb:=hbd ahF 82
def asa:=hbd aqo 83
def ayj:=hbd axu 84
def aeB:=hbd Tn 85
def aeA:=hbd Tm 86
def UF:=hbd JN 87
def Ku:=hbd JM 88
def aez:=hbd Tj 89
def UE:=hbd JL 90
def UD:=hbd Ti 92
def ax6:=hbd ap0 93
def arG:=hbd aqe 94
def aad:=hbd MX 95
def aac:=hbd MW 96
def ax5:=hbd axp 97
def ad3:=hbd Si 98
def ad2:=hbd Sg 99
def arK:=hbd aqh 100
def Oq:=hbd M9 101
def Oo:=hbd M8 102
def aai:=hbd M7 103
def Om:=hbd M6 104
def arJ:=hbd aqg 105
def aah:=hbd M5 106
def aag:=hbd M4 107
def aaf:=hbd M0 108
def aae:=hbd MZ 109
def arI:=hbd aqf 110
def arH:=hbd ahf 111
def arb:=hbd aqa 112
def Z9:=hbd MO 113
def Z8:=hbd MN 114
def ara:=hbd ap9 115
def aq8:=hbd ap8 116
def Z7:=hbd MJ 117
def Z6:=hbd MI 119
def Z5:=hbd MH 120
def Z4:=hbd MG 121
def aq7:=hbd agS 122
def aq6:=hbd agR 123
def ayr:=hbd aql 124
def ayq:=hbd aqk 125
def ayl:=hbd aqc 126
def ays:=hbd aqm 127
def UH:=hbd TS 128
def ayt:=hbd ajL 129
def ayu:=hbd aqn 130
def ayp:=hbd aqj 131
def h62:=hbd q62 132
def ZY:=hbd Yt 133
def ar6:=hbd ahB 134
def arA:=hbd ag9 135
def FM:=hbd MV 136
def zu:=hbd MU 137
def ar9:=hbd ahE 138
def arx:=hbd ag7 139
def arQ:=hbd ahl 140
def arD:=hbd ahc 141
def Oi:=hbd Eu 142
def arz:=hbd ag8 143
def zq:=hbd MS 144
def zo:=hbd MR 145
def arF:=hbd ahe 146
def Ol:=hbd Ey 147
def arp:=hbd ag3 148
def Og:=hbd MQ 149
def arf:=hbd agV 150
def N8:=hbd Em 151
def arB:=hbd aha 152
def aq9:=hbd agT 153
def arO:=hbd ahj 154
def aym:=hbd aqd 155
def UG:=hbd TQ 156
def aqY:=hbd agL 157
def aqX:=hbd agK 158
def ayo:=hbd aqi 159
def h7:=hbd q7 160
def QJ:=hbd ajJ 161
def Dl:=hbd yM 162
def Ky:=hbd CX 163
def Kv:=hbd CW 164
def aq0:=hbd ajH 165
def Kt:=hbd CV 166
def zn:=hbd CU 167
def UC:=hbd JK 168
def zm:=hbd JJ 169
def UB:=hbd JI 170
def aqZ:=hbd ajG 171
def Kr:=hbd CS 172
def Kq:=hbd CR 173
def UA:=hbd JH 174
def Ko:=hbd CQ 175
def zl:=hbd CP 176
def uX:=hbd Ej 177
def QI:=hbd ajF 178
def Uz:=hbd JG 179
def Uy:=hbd JF 180
def aya:=hbd ap4 181
def Ux:=hbd Sj 182
def Uw:=hbd JE 183
def ax9:=hbd ap3 184
def ar8:=hbd ahD 185
def ar5:=hbd ahA 186
def ar2:=hbd ahx 187
def Ox:=hbd Nb 188
def ar1:=hbd ahw 189
def Ow:=hbd Na 190
def ar0:=hbd ahv 191
def arW:=hbd ahr 192
def arT:=hbd aho 193
def arZ:=hbd ahu 194
def arR:=hbd ahm 195
def arN:=hbd ahi 196
def Ov:=hbd EB 197
def arE:=hbd ahd 198
def Oj:=hbd Ew 199
def arC:=hbd ahb 200
def Oh:=hbd Es 201
def arP:=hbd ahk 202
def ax8:=hbd ap2 203
def arY:=hbd aht 204
def arl:=hbd ag0 205
def Oc:=hbd Eo 206
def ark:=hbd agZ 207
def Ob:=hbd En 208
def arM:=hbd ahh 209
def Ou:=hbd EA 210
def aro:=hbd ag2 211
def Oe:=hbd Er 212
def ari:=hbd agX 213
def ax7:=hbd ap1 214
def ar7:=hbd ahC 215
def ar4:=hbd ahz 216
def ard:=hbd agU 217
def N7:=hbd El 218
def arL:=hbd ahg 219
def Ot:=hbd Ez 220
def arn:=hbd ag1 221
def Od:=hbd Ep 222
def arX:=hbd ahs 223
def arV:=hbd ahq 224
def arU:=hbd ahp 225
def arS:=hbd ahn 226
def arj:=hbd agY 227
def Oa:=hbd MP 228
def arw:=hbd ag6 229
def ars:=hbd ag5 230
def arq:=hbd ag4 231
def arh:=hbd agW 232
def h3:=hbd q3 233
def h7a:=hbd q7a 234
variable(O:Q→Option Rs)
theorem h5:body PG EE TT O q5=OJ (agh []):=by kernel_rfl
theorem h47(a):body PG EE TT O (q47 a)=OJ (XO [a]):=by kernel_rfl
theorem h17(a):body PG EE TT O (q17 a)=OJ ((F8 5) [a]):=by kernel_rfl
theorem ayk(a):body PG EE TT O (aqb a)=OJ (aa4 [a]):=by kernel_rfl
theorem h18(a):body PG EE TT O (q18 a)=OJ ((F8 6) [a]):=by kernel_rfl
theorem h19(a):body PG EE TT O (q19 a)=OJ ((F8 8) [a]):=by kernel_rfl
theorem aru(a b c):body PG EE TT O (Tp a b c)=weakM [0,0,0,0,0,0,0,0,0,0,0,0,0,0,0,0,1] (O ⟨21,[a,b,c]⟩):=by kernel_rfl
theorem aq4(a b c):body PG EE TT O (agP a b c)=weakM [0,1,0,0,0,0,0,0,0] (O ⟨41,[a,b,c]⟩):=by kernel_rfl
theorem aq3(a b c):body PG EE TT O (agO a b c)=weakM [0,0,0,0,1,0,0,0,0] (O ⟨57,[a,b,c]⟩):=by kernel_rfl
theorem aq2(a b c):body PG EE TT O (agN a b c)=weakM [0,0,1,0,0] (O ⟨66,[a,b,c]⟩):=by kernel_rfl
theorem aq1(a b c):body PG EE TT O (agM a b c)=weakM [0,1] (O ⟨73,[a,b,c]⟩):=by kernel_rfl
theorem ahM(a b c):body PG EE TT O (Yh a b c)=weakM [0,1] (O ⟨77,[a,b,c]⟩):=by kernel_rfl
theorem aqV(a b c):body PG EE TT O (agI a b c)=weakM [0,1] (O ⟨81,[a,b,c]⟩):=by kernel_rfl
theorem akI(a b c):body PG EE TT O (YC a b c)=weakM [0,1,0] (O ⟨83,[a,b,c]⟩):=by kernel_rfl
theorem aq5(a b c):body PG EE TT O (agQ a b c)=weakM [1,0] (O ⟨84,[a,b,c]⟩):=by kernel_rfl
theorem akD(a b c):body PG EE TT O (Yy a b c)=weakM [0,1,0] (O ⟨94,[a,b,c]⟩):=by kernel_rfl
theorem aqW(a b c):body PG EE TT O (agJ a b c)=weakM [0,1,0,0,0,0,0,0,0,0,0,0,0,0,0,0,0] (O ⟨97,[a,b,c]⟩):=by kernel_rfl
theorem ax1(a b c d e f g h i j k l m n o p q r s t u v w x y a0):body PG EE TT O (apW a b c d e f g h i j k l m n o p q r s t u v w x y a0)=LF (O ⟨18,[a,b,c,d,e,f,g,h,i,j,k,l,m,n,o,p,q,r,s,t,u,v,w,x,y,a0]⟩):=by kernel_rfl
theorem akH(a b c d):body PG EE TT O (YB a b c d)=weakM [0,0,0,0,0,0,0,0,0,0,0,0,0,0,0,0,1] (O ⟨100,[a,b,c,d]⟩):=by kernel_rfl
theorem akG(a b c):body PG EE TT O (YA a b c)=weakM [0,1] (O ⟨105,[a,b,c]⟩):=by kernel_rfl
theorem akF(a b c):body PG EE TT O (Yz a b c)=weakM [0,1] (O ⟨110,[a,b,c]⟩):=by kernel_rfl
theorem akC(a b c d):body PG EE TT O (Yx a b c d)=weakM [0,1,0] (O ⟨112,[a,b,c,d]⟩):=by kernel_rfl
theorem akB(a b c d):body PG EE TT O (Yw a b c d)=weakM [0,1,0] (O ⟨115,[a,b,c,d]⟩):=by kernel_rfl
theorem akA(a b c):body PG EE TT O (Yv a b c)=weakM [0,0,1] (O ⟨116,[a,b,c]⟩):=by kernel_rfl
theorem Z0(a b c):body PG EE TT O (Yu a b c)=weakM [0,1] (O ⟨122,[a,b,c]⟩):=by kernel_rfl
theorem ar3(a b c d):body PG EE TT O (ahy a b c d)=LF (O ⟨125,[a,b,c,d]⟩):=by kernel_rfl
end Go.Proofs.YtfphhabaeggenaaGreatDoor
