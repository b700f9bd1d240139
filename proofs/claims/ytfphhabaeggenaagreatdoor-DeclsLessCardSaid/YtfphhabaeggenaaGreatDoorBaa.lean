/- Joined texts. -/
import Derived.Below
import Derived.OrdersHeld
import Derived.Laws.AppendOwn
import Derived.Laws.Cells
import Derived.Laws.CopyRow
import Derived.Great.BuildSlice
import Derived.Deep.AppendLies
import Derived.Laws.Tables
import Derived.Laws.Strings
import Derived.Laws.BytesString
set_option linter.all false
namespace Go.Proofs.YtfphhabaeggenaaGreatDoor
def asc:Nat→Option (List Value):=fun _=>none
end Go.Proofs.YtfphhabaeggenaaGreatDoor
namespace Go.Proofs.YtfphhabaeggenaaGreatDoor
def sF:Value→Bool
 |.bool _ | .int _ _ | .float _ _ | .string _ | .nilFunc | .nilIface=>true
 |.pointer none | .map none | .chan none=>true
 |.slice _ 0 _=>true
 |_=>false
inductive PV where
 |lit (v:Value)
 |rows (es:List (List PV))
 |opq (ne:List ByteArray) (lo hi:Nat)
 |rng (lo hi:Nat)
 |sym (i:Nat)
 |any
inductive AV where
 |pv (p:PV)
 |trows (t:Nat) (es:List (List PV))
 |tsym (t i:Nat)
 |ptr (i o:Nat)
 |cptr (cs:List PV)
 |agg (l:List AV)
 |tup (l:List AV)
 |fn (f:Nat) (caps:List AV)
 |sl (t lo len sz:Nat)
 |mp (t:Nat)
 |ifc (t:TypeId) (v:AV)
 |arr (t:Nat)
 |aptr (t:Nat) (i:PV) (o:Nat)
 |arv (t:Nat) (i q:PV)
inductive ah where
 |box (ty:TypeId) (cells:List AV)
 |tok (ty:TypeId) (sz len:Nat)
 |dead
 |mp (ks:List Value) (vs:List AV)
 |arr (ty:TypeId) (sz:Nat) (p:PV)
structure Kn where
 M:Nat→Nat→Option Value
 Z:Nat→Nat
 E:Nat→Nat
 mu:Nat→Option Nat
 R:Nat→PV
 N:Nat→Nat
 gl:∀(b:Nat) (cs:List Value),asc b=some cs→∀(i:Nat) (v:Value),cs[i]? = some v→M b i=some v
inductive PR(R:Nat→PV)(M:Nat→Nat→Option Value):PV→Value→Prop where
 |lit (v:Value) (h:sF v=true):PR R M (.lit v) v
 |rows (es:List (List PV)) (a:Option Addr) (cap g off sz:Nat) (us:Nat→Nat→Value)
   (ha:es≠[]→a=some ⟨g,off,none⟩) (hn:es.length≤cap)
   (hsz:∀i (h:i<es.length),es[i].length=sz)
   (hc:∀i,i<es.length→∀j,j<sz→M g (off+i*sz+j)=some (us i j))
   (hr:∀i (h:i<es.length) j (hj:j<es[i].length),PR R M es[i][j] (us i j)) :
   PR R M (.rows es) (.slice a es.length cap)
 |opq (ne:List ByteArray) (lo hi:Nat) (s:ByteArray) (hne:∀x,x∈ne→s.data.toList≠x.data.toList) (hlo:lo≤s.size) (hhi:s.size≤hi):PR R M (.opq ne lo hi) (.string s)
 |rng (lo hi:Nat) (n:Int) (hlo:(lo:Int)≤n) (hhi:n≤(hi:Int)):PR R M (.rng lo hi) (.int .i64 n)
 |sym (i:Nat) (v:Value) (h:PR R M (R i) v):PR R M (.sym i) v
 |any (v:Value) (h:v.oneCell'=true):PR R M .any v
inductive RL(R:Nat→PV):PV→Nat→Prop where
 |rows (es:List (List PV)):RL R (.rows es) es.length
 |sym (i n:Nat) (h:RL R (R i) n):RL R (.sym i) n
def qO:Nat:=1099511627776
inductive VR(K:Kn):AV→Value→Prop where
 |pv {p:PV} {v:Value} (h:PR K.R K.M p v):VR K (.pv p) v
 |trows (t:Nat) (es:List (List PV)) (g:Nat) (us:Nat→Nat→Value) (hm:K.mu t=some g) (hn:es.length≤K.Z g)
   (hsz:∀i (h:i<es.length),es[i].length=K.E g)
   (hc:∀i,i<es.length→∀j,j<K.E g→K.M g (i*K.E g+j)=some (us i j))
   (hr:∀i (h:i<es.length) j (hj:j<es[i].length),PR K.R K.M es[i][j] (us i j)) :
   VR K (.trows t es) (.slice (some ⟨g,0,none⟩) es.length (K.Z g))
 |tsym (t i:Nat) (es:List (List PV)) (hi:K.R i=.rows es) {v:Value} (h:VR K (.trows t es) v):VR K (.tsym t i) v
 |ptr (i o g:Nat) (hm:K.mu i=some g):VR K (.ptr i o) (.pointer (some ⟨g,o,none⟩))
 |cptr (cs:List PV) (g o:Nat) (us:Nat→Value) (hc:∀j,j<cs.length→K.M g (o+j)=some (us j))
   (hr:∀j (h:j<cs.length),PR K.R K.M cs[j] (us j)):VR K (.cptr cs) (.pointer (some ⟨g,o,none⟩))
 |agg (l:List AV) (cs:List Value) (hl:l.length=cs.length) (h:∀i (h:i<l.length) (h':i<cs.length),VR K l[i] cs[i]):VR K (.agg l) (.agg cs.toArray)
 |tup (l:List AV) (cs:List Value) (hl:l.length=cs.length) (h:∀i (h:i<l.length) (h':i<cs.length),VR K l[i] cs[i]):VR K (.tup l) (.tuple cs.toArray)
 |fn (f:Nat) (l:List AV) (cs:List Value) (hl:l.length=cs.length) (h:∀i (h:i<l.length) (h':i<cs.length),VR K l[i] cs[i]) (hb:f<qO):VR K (.fn f l) (.func (.func f) #[] cs.toArray)
 |bfn (f g:Nat) (l:List AV) (cs:List Value) (hl:l.length=cs.length) (h:∀i (h:i<l.length) (h':i<cs.length),VR K l[i] cs[i]) (hg:g=f+qO):VR K (.fn g l) (.func (.func f) cs.toArray #[])
 |sl (t lo len sz g cap off:Nat) (hm:K.mu t=some g) (he:K.E g=sz) (hl:len≤cap) (hz:lo+cap≤K.Z g) (hof:0<cap→off=lo*sz):VR K (.sl t lo len sz) (.slice (some ⟨g,off,none⟩) len cap)
 |mp (t g:Nat) (hm:K.mu t=some g):VR K (.mp t) (.map (some g))
 |ifc (t:TypeId) {v:AV} {u:Value} (h:VR K v u):VR K (.ifc t v) (.iface t u)
 |arr (t g cap:Nat) (hm:K.mu t=some g) (hn:K.N t≤cap) (hz:cap≤K.Z g):VR K (.arr t) (.slice (some ⟨g,0,none⟩) (K.N t) cap)
 |aptr (t:Nat) (i:PV) (o g k:Nat) (kd:IntKind) (hm:K.mu t=some g) (hi:PR K.R K.M i (.int kd k)) (hk:k<K.N t):VR K (.aptr t i o) (.pointer (some ⟨g,k*K.E g+o,none⟩))
 |arv (t:Nat) (i q:PV) (g k n cap off:Nat) (kd:IntKind) (hm:K.mu t=some g) (hi:PR K.R K.M i (.int kd k)) (hq:RL K.R q n) (hn:k+n≤K.N t) (hc:n≤cap) (hz:k+cap≤K.Z g) (hof:off=if 0<cap then k*K.E g else 0):VR K (.arv t i q) (.slice (some ⟨g,off,none⟩) n cap)
def VL(K:Kn)(l:List AV)(cs:List Value):Prop:=l.length=cs.length∧∀i (_:i<l.length) (_:i<cs.length),VR K l[i] cs[i]
structure Ext(K K':Kn):Prop where
 M:∀g o v,K.M g o=some v→K'.M g o=some v
 mu:∀i g,K.mu i=some g→K'.mu i=some g
 Z:∀i g,K.mu i=some g→K'.Z g=K.Z g
 E:∀i g,K.mu i=some g→K'.E g=K.E g
 R:K'.R=K.R
 N:∀i g,K.mu i=some g→K'.N i=K.N i
theorem Ext.refl(K:Kn):Ext K K:=⟨fun _ _ _ h=>h,fun _ _ h=>h,fun _ _ _=>rfl,fun _ _ _=>rfl,rfl,fun _ _ _=>rfl⟩
theorem Ext.trans{K K' K'':Kn}(h:Ext K K')(h':Ext K' K''):Ext K K'':=
 ⟨fun g o v hh=>h'.M g o v (h.M g o v hh),fun i g hh=>h'.mu i g (h.mu i g hh),fun i g hh=>(h'.Z i g (h.mu i g hh)).trans (h.Z i g hh),fun i g hh=>(h'.E i g (h.mu i g hh)).trans (h.E i g hh),h'.R.trans h.R,fun i g hh=>(h'.N i g (h.mu i g hh)).trans (h.N i g hh)⟩
theorem PR.mono{R:Nat→PV}{M M':Nat→Nat→Option Value}(hM:∀g o v,M g o=some v→M' g o=some v){p:PV}{v:Value}(h:PR R M p v):PR R M' p v:=by
 induction h with
 |lit v h=>exact .lit v h
 |rows es a cap g off sz us ha hn hsz hc _ ih=>exact .rows es a cap g off sz us ha hn hsz (fun i hi j hj=>hM _ _ _ (hc i hi j hj)) ih
 |opq ne lo hi s hne hlo hhi=>exact .opq ne lo hi s hne hlo hhi
 |rng lo hi n hlo hhi=>exact .rng lo hi n hlo hhi
 |sym i v _ ih=>exact .sym i v ih
 |any v h=>exact .any v h
theorem PR.ext{K K':Kn}(e:Ext K K'){p:PV}{v:Value}(h:PR K.R K.M p v):PR K'.R K'.M p v:=by rw[e.R];exact h.mono e.M
theorem VR.mono{K K':Kn}(e:Ext K K'){a:AV}{v:Value}(h:VR K a v):VR K' a v:=by
 induction h with
 |pv h=>exact .pv (h.ext e)
 |trows t es g us hm hn hsz hc hr=>
  have hz:=e.Z t g hm;have he:=e.E t g hm;rw[←hz];refine .trows t es g us (e.mu t g hm) (by rw[hz];exact hn) (by rw[he];exact hsz) (fun i hi j hj=>?_) (fun i hi j hj=>(hr i hi j hj).ext e);rw[he] at hj ⊢;exact e.M _ _ _ (hc i hi j hj)
 |tsym t i es hi _ ih=>exact .tsym t i es (by rw[e.R];exact hi) ih
 |ptr i o g hm=>exact .ptr i o g (e.mu i g hm)
 |cptr cs g o us hc hr=>exact .cptr cs g o us (fun j hj=>e.M _ _ _ (hc j hj)) (fun j hj=>(hr j hj).ext e)
 |agg l cs hl _ ih=>exact .agg l cs hl ih
 |tup l cs hl _ ih=>exact .tup l cs hl ih
 |fn f l cs hl _ hb ih=>exact .fn f l cs hl ih hb
 |bfn f g l cs hl _ hg ih=>exact .bfn f g l cs hl ih hg
 |sl t lo len sz g cap off hm he hl hz hof=>exact .sl t lo len sz g cap off (e.mu t g hm) ((e.E t g hm).trans he) hl (by rw[e.Z t g hm];exact hz) hof
 |mp t g hm=>exact .mp t g (e.mu t g hm)
 |ifc t _ ih=>exact .ifc t ih
 |arr t g cap hm hn hz=>
  have:=VR.arr (K:=K') t g cap (e.mu t g hm) (by rw[e.N t g hm];exact hn) (by rw[e.Z t g hm];exact hz);rw[e.N t g hm] at this;exact this
 |aptr t i o g k kd hm hi hk=>
  have:=VR.aptr (K:=K') t i o g k kd (e.mu t g hm) (hi.ext e) (by rw[e.N t g hm];exact hk);rw[e.E t g hm] at this;exact this
 |arv t i q g k n cap off kd hm hi hq hn hc hz hof=>
  exact .arv t i q g k n cap off kd (e.mu t g hm) (hi.ext e) (by rw[e.R];exact hq) (by rw[e.N t g hm];exact hn) hc (by rw[e.Z t g hm];exact hz) (by rw[e.E t g hm];exact hof)
theorem VL.mono{K K':Kn}(e:Ext K K'){l:List AV}{cs:List Value}(h:VL K l cs):VL K' l cs:=⟨h.1,fun i hi hi'=>(h.2 i hi hi').mono e⟩
theorem PR.one{R:Nat→PV}{M:Nat→Nat→Option Value}{p:PV}{v:Value}(h:PR R M p v):v.oneCell'=true:=by
 induction h with
 |lit v h=>cases v<;>first|rfl|simp[sF] at h
 |rows=>rfl
 |opq=>rfl
 |rng=>rfl
 |sym _ _ _ ih=>exact ih
 |any _ h=>exact h
def AV.isCell:AV→Bool
 |.agg _ | .tup _=>false
 |_=>true
theorem VR.one{K:Kn}{a:AV}{v:Value}(h:VR K a v)(hc:a.isCell=true):v.oneCell'=true:=by
 cases h with
 |pv h=>exact h.one
 |agg=>cases hc
 |tup=>cases hc
 |trows=>rfl
 |tsym t i es hi h=>cases h;rfl
 |ptr=>rfl
 |cptr=>rfl
 |fn=>rfl
 |bfn=>rfl
 |sl=>rfl
 |mp=>rfl
 |ifc=>rfl
 |arr=>rfl
 |aptr=>rfl
 |arv=>rfl
def AV.cells:AV→List AV
 |.agg l=>l
 |v=>[v]
theorem VL.single{K:Kn}{a:AV}{v:Value}(h:VR K a v):VL K [a] [v]:=⟨rfl,fun i hi hi'=>by
 have:i=0:=by simp at hi;exact hi
 subst this;exact h⟩
theorem VR.cells{K:Kn}{a:AV}{v:Value}(h:VR K a v):VL K a.cells v.cells.toList:=by
 cases h with
 |agg l cs hl h=>exact⟨by simpa[AV.cells,Value.cells] using hl,fun i hi hi'=>h i hi (by simpa[Value.cells] using hi')⟩
 |pv h'=>
  have:=VL.single (VR.pv h');cases h' with
  |lit v hp=>cases v<;>first|exact this|simp[sF] at hp
  |rows=>exact this
  |opq=>exact this
  |rng=>exact this
  |sym i v h=>
   have ho:=h.one;have hv:v.cells.toList=[v]:=by cases v<;>first|rfl|cases ho
   rw[hv];exact this
  |any v h=>
   have hv:v.cells.toList=[v]:=by cases v<;>first|rfl|cases h
   rw[hv];exact this
 |trows t es g us a b c d e=>exact VL.single (.trows t es g us a b c d e)
 |tsym t i es hi h'=>
  have:=VL.single (VR.tsym t i es hi h');cases h' with
  |trows t es g us a b c d e=>exact this
 |ptr i o g a=>exact VL.single (.ptr i o g a)
 |cptr cs g o us a b=>exact VL.single (.cptr cs g o us a b)
 |tup l cs hl h=>exact VL.single (.tup l cs hl h)
 |fn f l cs hl h hb=>exact VL.single (.fn f l cs hl h hb)
 |bfn f g l cs hl h hg=>exact VL.single (.bfn f g l cs hl h hg)
 |sl t lo len sz g cap off a b c d f=>exact VL.single (.sl t lo len sz g cap off a b c d f)
 |mp t g a=>exact VL.single (.mp t g a)
 |ifc t a=>exact VL.single (.ifc t a)
 |arr t g c a b d=>exact VL.single (.arr t g c a b d)
 |aptr t i o g k kd a b c=>exact VL.single (.aptr t i o g k kd a b c)
 |arv t i q g k n cap off kd a b c d e f h=>exact VL.single (.arv t i q g k n cap off kd a b c d e f h)
def AV.toPV:AV→Option PV
 |.pv p=>some p
 |.trows _ es=>some (.rows es)
 |.tsym _ i=>some (.sym i)
 |_=>none
theorem VR.toPV{K:Kn}{a:AV}{v:Value}(h:VR K a v){p:PV}(hp:a.toPV=some p):PR K.R K.M p v:=by
 cases h with
 |pv h=>cases hp;exact h
 |trows t es g us hm hn hsz hc hr=>
  cases hp;exact .rows es (some ⟨g,0,none⟩) (K.Z g) g 0 (K.E g) us (fun _=>rfl) hn hsz (fun i hi j hj=>by rw[Nat.zero_add];exact hc i hi j hj) hr
 |tsym t i es hi h=>
  cases hp;refine .sym i _ ?_;rw[hi];cases h with
  |trows t es g us hm hn hsz hc hr=>exact .rows es (some ⟨g,0,none⟩) (K.Z g) g 0 (K.E g) us (fun _=>rfl) hn hsz (fun i hi j hj=>by rw[Nat.zero_add];exact hc i hi j hj) hr
 |ptr=>cases hp
 |cptr=>cases hp
 |agg=>cases hp
 |tup=>cases hp
 |fn=>cases hp
 |bfn=>cases hp
 |sl=>cases hp
 |mp=>cases hp
 |ifc=>cases hp
 |arr=>cases hp
 |aptr=>cases hp
 |arv=>cases hp
def PV.rowLen:PV→Nat
 |.rows es=>es.length
 |_=>0
def aH:Nat:=18446744073709551616
def dl(R:Nat→PV)(n:Nat):Nat:=if n<aH then n else(R (n-aH)).rowLen
theorem gq{R:Nat→PV}{n:Nat}(h:n<aH):dl R n=n:=if_pos h
theorem sU{R:Nat→PV}{i:Nat}{es:List (List PV)}(h:R i=.rows es):dl R (aH+i)=es.length:=by
 unfold dl;rw[if_neg (by omega),show aH+i-aH=i by omega,h];rfl
def ah.live:ah→Bool
 |.dead=>false
 |_=>true
mutual
def aj(R:Nat→PV):PV→PV
 |.sym i=>R i
 |.rows es=>.rows (aX R es)
 |.lit v=>.lit v
 |.opq ne lo hi=>.opq ne lo hi
 |.rng lo hi=>.rng lo hi
 |.any=>.any
def aG(R:Nat→PV):List PV→List PV
 |[]=>[]
 |p::l=>aj R p::aG R l
def aX(R:Nat→PV):List (List PV)→List (List PV)
 |[]=>[]
 |l::es=>aG R l::aX R es
end
mutual
/-- No names within. -/
def Ck:PV→Bool
 |.sym _=>false
 |.rows es=>dQ es
 |_=>true
def Ao:List PV→Bool
 |[]=>true
 |p::l=>Ck p&&Ao l
def dQ:List (List PV)→Bool
 |[]=>true
 |c::l=>Ao c&&dQ l
end
mutual
theorem jl(R:Nat→PV):∀p:PV,Ck p=true→aj R p=p
 |.sym i,h=>by rw[Ck] at h;cases h
 |.rows es,h=>by rw[Ck] at h;rw[aj,EL R es h]
 |.lit v,_=>by rw[aj]
 |.opq ..,_=>by rw[aj]
 |.rng ..,_=>by rw[aj]
 |.any,_=>by rw[aj]
theorem Ik(R:Nat→PV):∀l:List PV,Ao l=true→aG R l=l
 |[],_=>by rw[aG]
 |p::l,h=>by
  rw[Ao,Bool.and_eq_true] at h;rw[aG,jl R p h.1,Ik R l h.2]
theorem EL(R:Nat→PV):∀l:List (List PV),dQ l=true→aX R l=l
 |[],_=>by rw[aX]
 |c::l,h=>by
  rw[dQ,Bool.and_eq_true] at h;rw[aX,Ik R c h.1,EL R l h.2]
end
def cellV:PV→Value
 |.lit v=>v
 |_=>.bool false
def Cm:List PV→Value
 |.lit v::_=>v
 |.rows [c]::_=>.agg (c.map cellV).toArray
 |_=>.bool false
def qW:List PV→AV
 |[_,p]=>.pv p
 |_::p::q::r=>.agg ((p::q::r).map .pv)
 |_=>.pv .any
def wG(R:Nat→PV)(p:PV):Option (List (List PV)):=match aj R p with
 |.rows es=>if dQ es then some es else none
 |_=>none
def oW:List Value→List AV→Bool
 |[],[.pv _]=>true
 |_,_=>false
def ML(K:Kn)(ks:List Value)(vs:List AV)(l:List MapEntry):Prop:=match ks,vs with
 |[],[.pv p]=>∃es,wG K.R p=some es∧l.map (·.key)=es.map Cm∧VL K (es.map qW) (l.map (·.val))
 |ks,vs=>l.map (·.key)=ks∧VL K vs (l.map (·.val))
theorem ML.plain{K:Kn}{ks:List Value}{vs:List AV}{l:List MapEntry}(h:oW ks vs=false):ML K ks vs l↔(l.map (·.key)=ks∧VL K vs (l.map (·.val))):=by
 unfold ML;split
 ·simp[oW] at h
 ·exact Iff.rfl
theorem ML.row{K:Kn}{p:PV}{l:List MapEntry}:ML K [] [.pv p] l↔∃es,wG K.R p=some es∧l.map (·.key)=es.map Cm∧VL K (es.map qW) (l.map (·.val)):=Iff.rfl
theorem ML.go{K K':Kn}{ks:List Value}{vs vs':List AV}{l:List MapEntry}(h:ML K ks vs l)
  (hp:oW ks vs=false→oW ks vs'=false∧(VL K vs (l.map (·.val))→VL K' vs' (l.map (·.val))))
  (hs:∀p,ks=[]→vs=[.pv p]→∃p',vs'=[.pv p']∧∀es,wG K.R p=some es→wG K'.R p'=some es∧(VL K (es.map qW) (l.map (·.val))→VL K' (es.map qW) (l.map (·.val)))):ML K' ks vs' l:=by
 cases hb:oW ks vs with
 |false=>
  obtain⟨h1,h2⟩:=hp hb;rw[ML.plain hb] at h;rw[ML.plain h1];exact⟨h.1,h2 h.2⟩
 |true=>
  unfold oW at hb;split at hb
  ·rename_i p
   obtain⟨p',rfl,h2⟩:=hs p rfl rfl;obtain⟨es,e1,e2,e3⟩:=ML.row.1 h;obtain⟨g1,g2⟩:=h2 es e1;exact ML.row.2 ⟨es,g1,e2,g2 e3⟩
  ·cases hb
theorem ML.mono{K K':Kn}(e:Ext K K'){ks:List Value}{vs:List AV}{l:List MapEntry}(h:ML K ks vs l):ML K' ks vs l:=
 h.go (fun hb=>⟨hb,fun hv=>hv.mono e⟩) (fun p _ hv=>⟨p,hv,fun es he=>⟨by rw[e.R];exact he,fun hv=>hv.mono e⟩⟩)
structure AR(K:Kn)(i g sz:Nat)(p:PV)(cs:Array Value):Prop where
 el:K.E g=sz
 none:∀o,K.M g o=none
 row:∃es,aj K.R p=.rows es∧dQ es=true∧es.length=K.N i∧es.length≤K.Z g∧(∀k (h:k<es.length),es[k].length=K.E g)∧
  ∀k (h:k<es.length) j (hj:j<es[k].length),∃v,cs[k*K.E g+j]? = some v∧PR K.R K.M es[k][j] v
theorem AR.go{K K':Kn}{i i' g sz:Nat}{p p':PV}{cs:Array Value}(h:AR K i g sz p cs)(hM:∀o,K'.M g o=.none)(hp:aj K'.R p'=aj K.R p)(hN:K'.N i'=K.N i)(hZ:K'.Z g=K.Z g)(hE:K'.E g=K.E g)
  (hv:∀q v,Ck q=true→PR K.R K.M q v→PR K'.R K'.M q v):AR K' i' g sz p' cs:=by
 obtain⟨he,hn,es,h1,h2,h3,h4,h5,h6⟩:=h;refine⟨hE.trans he,hM,es,by rw[hp,h1],h2,by rw[hN,h3],by rw[hZ];exact h4,fun k hk=>by rw[hE];exact h5 k hk,fun k hk j hj=>?_⟩;obtain⟨v,a,b⟩:=h6 k hk j hj;rw[hE];refine⟨v,a,hv _ _ ?_ b⟩;have e1:∀(l:List PV),Ao l=true→∀q∈l,Ck q=true:=by
  intro l
  induction l with
  |nil=>intro _ q hq;simp at hq
  |cons a l ih=>
   intro hl q hq;rw[Ao,Bool.and_eq_true] at hl;rcases List.mem_cons.1 hq with rfl|hq
   ·exact hl.1
   ·exact ih hl.2 q hq
 have e2:∀(l:List (List PV)),dQ l=true→∀q∈l,Ao q=true:=by
  intro l
  induction l with
  |nil=>intro _ q hq;simp at hq
  |cons a l ih=>
   intro hl q hq;rw[dQ,Bool.and_eq_true] at hl;rcases List.mem_cons.1 hq with rfl|hq
   ·exact hl.1
   ·exact ih hl.2 q hq
 exact e1 _ (e2 es h2 _ (List.getElem_mem hk)) _ (List.getElem_mem hj)
structure WR(K:Kn)(h:List ah)(w:World):Prop where
 fresh:∀i,h.length≤i→K.mu i=none
 has:∀i,i<h.length→∃g,K.mu i=some g
 lt:∀i g,K.mu i=some g→g<w.heap.size
 box:∀(i:Nat) ty cells,h[i]? = some (.box ty cells)→∃g cs,K.mu i=some g∧w.heap[g]? = some (.cells cs ty (0,0))∧(cs.size=K.Z g*K.E g∧K.Z g≤maxLen)∧VL K cells (cs.toList.take cells.length)
 map:∀(i:Nat) ks vs,h[i]? = some (.mp ks vs)→∃g ents clock,K.mu i=some g∧w.heap[g]? = some (.map ents clock)∧ML K ks vs ents.toList
 tok:∀(t:Nat) ty sz len,h[t]? = some (.tok ty sz len)→∃g cs,K.mu t=some g∧w.heap[g]? = some (.cells cs ty (0,0))∧cs.size=K.Z g*sz∧K.E g=sz∧K.Z g≤maxLen∧∀o,dl K.R len*sz≤o→K.M g o=none
 inj:∀(i j:Nat) x y g,h[i]? = some x→h[j]? = some y→x.live=true→y.live=true→K.mu i=some g→K.mu j=some g→i=j
 apart:∀(i:Nat) ty cells g,h[i]? = some (.box ty cells)→K.mu i=some g→∀o,K.M g o=none
 agr:∀g o v,K.M g o=some v→w.cell? ⟨g,o,none⟩=some v
 arr:∀(i:Nat) ty sz p,h[i]? = some (.arr ty sz p)→∃g cs,K.mu i=some g∧w.heap[g]? = some (.cells cs ty (0,0))∧(cs.size=K.Z g*K.E g∧K.Z g≤maxLen)∧AR K i g sz p cs
structure jv(S:Nat→Prop)(w w':World):Prop where
 os:w'.os=w.os
 tape:w'.tape=w.tape
 output:w'.output=w.output
 size:w.heap.size≤w'.heap.size
 block:∀k,k<w.heap.size→¬S k→w'.heap[k]? = w.heap[k]?
theorem jv.refl(S:Nat→Prop)(w:World):jv S w w:=⟨rfl,rfl,rfl,Nat.le_refl _,fun _ _ _=>rfl⟩
theorem jv.trans{S T:Nat→Prop}{a b c:World}(h:jv S a b)(k:jv T b c)(hT:∀i,i<a.heap.size→T i→S i):jv S a c:=
 ⟨k.os.trans h.os,k.tape.trans h.tape,k.output.trans h.output,Nat.le_trans h.size k.size,
  fun i hi hs=>(k.block i (Nat.lt_of_lt_of_le hi h.size) (fun ht=>hs (hT i hi ht))).trans (h.block i hi hs)⟩
theorem jv.mono{S T:Nat→Prop}{a b:World}(h:jv S a b)(hT:∀i,i<a.heap.size→S i→T i):jv T a b:=
 ⟨h.os,h.tape,h.output,h.size,fun i hi hs=>h.block i hi (fun ht=>hs (hT i hi ht))⟩
def Kn.at(K:Kn)(h:List ah)(l:List Nat)(b:Nat):Prop:=∃i x,i∈l∧h[i]? = some x∧x.live=true∧K.mu i=some b
end Go.Proofs.YtfphhabaeggenaaGreatDoor
namespace Go.Proofs.YtfphhabaeggenaaGreatDoor
open Go.RowKit
theorem sZ{w:World}{g o:Nat}{v:Value}(h:w.cell? ⟨g,o,none⟩=some v):g<w.heap.size:=by
 by_cases hg:g<w.heap.size
 ·exact hg
 ·simp[World.cell?,Array.getElem?_eq_none (Nat.le_of_not_lt hg)] at h
theorem Dk{w:World}{g:Nat}{o:Obj}(h:w.heap[g]? = some o):g<w.heap.size:=by
 by_cases hg:g<w.heap.size
 ·exact hg
 ·rw[Array.getElem?_eq_none (Nat.le_of_not_lt hg)] at h;cases h
theorem WR.noM{K:Kn}{h:List ah}{w:World}(H:WR K h w){g:Nat}(hg:w.heap.size≤g)(o:Nat):K.M g o=none:=by
 cases hm:K.M g o with
 |none=>rfl
 |some v=>have:=sZ (H.agr g o v hm);omega
theorem WR.same{K:Kn}{h:List ah}{w w':World}(H:WR K h w)(e:w'.heap=w.heap):WR K h w':=by
 refine⟨H.fresh,H.has,fun i g hg=>by rw[e];exact H.lt i g hg,fun i ty cells hi=>?_,fun i ks vs hi=>?_,fun t ty sz len ht=>?_,H.inj,H.apart,fun g o v hm=>?_,fun i ty sz p hi=>?_⟩
 ·rw[e];exact H.box i ty cells hi
 ·rw[e];exact H.map i ks vs hi
 ·rw[e];exact H.tok t ty sz len ht
 ·rw[World.cell?_of_block (w:=w) (by rw[e])];exact H.agr g o v hm
 ·rw[e];exact H.arr i ty sz p hi
def Kn.withBox(K:Kn)(i g z e:Nat):Kn:={K with mu:=fun j=>if j=i then some g else K.mu j,Z:=fun b=>if b=g then z else K.Z b,E:=fun b=>if b=g then e else K.E b }
theorem Ext.withBox{K:Kn}{i g z e:Nat}(h:K.mu i=none)(hZE:∀i,K.mu i=some g→K.Z g=z∧K.E g=e):Ext K (K.withBox i g z e):=by
 refine⟨fun _ _ _ h=>h,fun j g' hj=>?_,fun i b hi=>?_,fun i b hi=>?_,rfl,fun _ _ _=>rfl⟩
 ·show (if j=i then some g else K.mu j)=some g'
  by_cases e:j=i
  ·subst e;rw[h] at hj;cases hj
  ·rw[if_neg e];exact hj
 ·show (if b=g then z else K.Z b)=K.Z b
  by_cases e:b=g
  ·subst e;rw[if_pos rfl];exact(hZE i hi).1.symm
  ·rw[if_neg e]
 ·show (if b=g then e else K.E b)=K.E b
  by_cases e:b=g
  ·subst e;rw[if_pos rfl];exact(hZE i hi).2.symm
  ·rw[if_neg e]
def Px(K:Kn)(x:ah)(i g:Nat)(w:World):Prop:=match x with
 |.box ty cells=>∃cs,w.heap[g]? = some (.cells cs ty (0,0))∧(cs.size=K.Z g*K.E g∧K.Z g≤maxLen)∧VL K cells (cs.toList.take cells.length)
 |.mp ks vs=>∃ents clock,w.heap[g]? = some (.map ents clock)∧ML K ks vs ents.toList
 |.arr ty sz p=>∃cs,w.heap[g]? = some (.cells cs ty (0,0))∧(cs.size=K.Z g*K.E g∧K.Z g≤maxLen)∧AR K i g sz p cs
 |_=>False
theorem eD{α:Type}{l:List α}{x y:α}{i:Nat}(h:(l++[x])[i]? = some y):(i<l.length∧l[i]? = some y)∨(i=l.length∧x=y):=by
 by_cases hi:i<l.length
 ·rw[List.getElem?_append_left hi] at h;exact .inl ⟨hi,h⟩
 ·rw[List.getElem?_append_right (by omega)] at h
  by_cases h0:i-l.length=0
  ·rw[h0] at h
   refine .inr ⟨by omega,?_⟩;simpa using h
  ·rw[List.getElem?_eq_none (by simp;omega)] at h;cases h
theorem WR.put{K:Kn}{h h1:List ah}{w w':World}(H:WR K h w)(x:ah)(g z e:Nat)(hx:Px (K.withBox h.length g z e) x h.length g w')(hgl:g<w'.heap.size)
  (hsize:w.heap.size≤w'.heap.size) (hblk:∀k,k<w.heap.size→k≠g→w'.heap[k]? = w.heap[k]?) (hM:∀o,K.M g o=none)
  (hlen:h1.length=h.length) (h1h:∀(j:Nat) x,h1[j]? = some x→x.live=true→h[j]? = some x∧K.mu j≠some g)
  (hZE:∀i,K.mu i=some g→K.Z g=z∧K.E g=e) :
  WR (K.withBox h.length g z e) (h1++[x]) w'∧Ext K (K.withBox h.length g z e):=by
 have hfr:=H.fresh _ (Nat.le_refl _);have hxt:Ext K (K.withBox h.length g z e):=Ext.withBox hfr hZE;have hnew:(K.withBox h.length g z e).mu h.length=some g:=by show (if _ then _ else _)=_;rw[if_pos rfl]
 have hmo:∀i b,(K.withBox h.length g z e).mu i=some b→(i=h.length∧b=g)∨(i≠h.length∧K.mu i=some b):=by
  intro i b hi;change (if i=h.length then some g else K.mu i)=some b at hi;by_cases e:i=h.length
  ·rw[if_pos e] at hi;cases hi;exact .inl ⟨e,rfl⟩
  ·rw[if_neg e] at hi;exact .inr ⟨e,hi⟩
 refine⟨⟨fun i hi=>?_,fun i hi=>?_,fun i b hi=>?_,fun i ty' cells' hi=>?_,fun i ks' vs' hi=>?_,fun t ty' sz' len ht=>?_,fun i j x y b hi hj hlx hly hmi hmj=>?_,fun i ty' cells' b hi hm o=>?_,fun b o v hm=>?_,fun i ty' sz' p' hi=>?_⟩,hxt⟩
 ·simp[hlen] at hi
  show (if i=h.length then some g else K.mu i)=none;rw[if_neg (by omega)];exact H.fresh i (by omega)
 ·by_cases e:i=h.length
  ·subst e;exact⟨_,hnew⟩
  ·obtain⟨b,hb⟩:=H.has i (by simp[hlen] at hi;omega)
   exact⟨b,hxt.mu i b hb⟩
 ·rcases hmo i b hi with⟨_,rfl⟩|⟨_,hi⟩
  ·exact hgl
  ·have:=H.lt i b hi;omega
 ·rcases eD hi with⟨hl,hi⟩|⟨rfl,hi2⟩
  ·obtain⟨hh,hne⟩:=h1h i _ hi rfl
   obtain⟨b,cs',hm,hw,hs,hvl⟩:=H.box i ty' cells' hh;refine⟨b,cs',hxt.mu i b hm,?_,?_,hvl.mono hxt⟩
   ·rw[hblk b (H.lt i b hm) (fun e=>hne (by rw[←e];exact hm))];exact hw
   ·rw[hxt.Z i b hm,hxt.E i b hm];exact hs
  ·subst hi2
   obtain⟨cs,h1,h2,h3⟩:=hx;exact⟨g,cs,by rw[hlen];exact hnew,h1,h2,h3⟩
 ·rcases eD hi with⟨hl,hi⟩|⟨rfl,hi2⟩
  ·obtain⟨hh,hne⟩:=h1h i _ hi rfl
   obtain⟨b,ents,clock,hm,hw,hvl⟩:=H.map i ks' vs' hh;refine⟨b,ents,clock,hxt.mu i b hm,?_,hvl.mono hxt⟩;rw[hblk b (H.lt i b hm) (fun e=>hne (by rw[←e];exact hm))];exact hw
  ·subst hi2
   obtain⟨ents,clock,h1,h2⟩:=hx;exact⟨g,ents,clock,by rw[hlen];exact hnew,h1,h2⟩
 ·rcases eD ht with⟨hl,ht⟩|⟨rfl,ht2⟩
  ·obtain⟨hh,hne⟩:=h1h t _ ht rfl
   obtain⟨b,cs',hm,hw,h3,h4,h5,h6⟩:=H.tok t ty' sz' len hh;have hbg:b≠g:=fun e=>hne (by rw[←e];exact hm)
   refine⟨b,cs',hxt.mu t b hm,?_,?_,?_,?_,h6⟩
   ·rw[hblk b (H.lt t b hm) hbg];exact hw
   ·rw[hxt.Z t b hm];exact h3
   ·rw[hxt.E t b hm];exact h4
   ·rw[hxt.Z t b hm];exact h5
  ·subst ht2;exact hx.elim
 ·rcases hmo i b hmi with⟨hi1,hb⟩|⟨hi1,hmi⟩
  ·rcases hmo j b hmj with⟨hj1,_⟩|⟨hj1,hmj⟩
   ·omega
   ·rcases eD hj with⟨_,hj⟩|⟨e,_⟩
    ·exact absurd (by rw[←hb];exact hmj) (h1h j y hj hly).2
    ·exact absurd (by rw[e,hlen]) hj1
  ·rcases eD hi with⟨_,hi⟩|⟨e,_⟩
   ·rcases hmo j b hmj with⟨hj1,hb⟩|⟨hj1,hmj⟩
    ·exact absurd (by rw[←hb];exact hmi) (h1h i x hi hlx).2
    ·rcases eD hj with⟨_,hj⟩|⟨e,_⟩
     ·exact H.inj i j x y b (h1h i x hi hlx).1 (h1h j y hj hly).1 hlx hly hmi hmj
     ·exact absurd (by rw[e,hlen]) hj1
   ·exact absurd (by rw[e,hlen]) hi1
 ·rcases hmo i b hm with⟨_,rfl⟩|⟨hi1,hm⟩
  ·exact hM o
  ·rcases eD hi with⟨_,hi⟩|⟨e,hi2⟩
   ·exact H.apart i ty' cells' b (h1h i _ hi rfl).1 hm o
   ·exact absurd (by rw[e,hlen]) hi1
 ·have hm':K.M b o=some v:=hm
  have hc:=H.agr b o v hm';rw[World.cell?_of_block (w:=w) (hblk b (sZ hc) (fun e=>by subst e;rw[hM o] at hm';cases hm'))];exact hc
 ·rcases eD hi with⟨hl,hi⟩|⟨rfl,hi2⟩
  ·obtain⟨hh,hne⟩:=h1h i _ hi rfl
   obtain⟨b,cs',hm,hw,hs,ha⟩:=H.arr i ty' sz' p' hh;refine⟨b,cs',hxt.mu i b hm,?_,?_,ha.go ha.none rfl rfl (hxt.Z i b hm) (hxt.E i b hm) (fun _ _ _ h=>h)⟩
   ·rw[hblk b (H.lt i b hm) (fun e=>hne (by rw[←e];exact hm))];exact hw
   ·rw[hxt.Z i b hm,hxt.E i b hm];exact hs
  ·subst hi2
   obtain⟨cs,h1,h2,h3⟩:=hx;exact⟨g,cs,by rw[hlen];exact hnew,h1,h2,by rw[hlen];exact h3⟩
def Kn.withTok(K:Kn)(i g n sz cap:Nat)(cur:Array Value):Kn where
 M:=fun b o=>if b=g∧o<n*sz then(K.M b o).or cur[o]? else K.M b o
 Z:=fun b=>if b=g then cap else K.Z b
 E:=fun b=>if b=g then sz else K.E b
 mu:=fun j=>if j=i then some g else K.mu j
 R:=K.R
 N:=K.N
 gl:=fun b cs hb i v hv=>by
  have h:=K.gl b cs hb i v hv;split
  ·rw[h];rfl
  ·exact h
theorem WR.withTok{K:Kn}{h h1:List ah}{w w':World}(H:WR K h w)(ty:TypeId)(g n sz cap:Nat)(cur:Array Value)
  (hg:w'.heap[g]? = some (.cells cur ty (0,0))) (hcs:cur.size=cap*sz) (hcap:cap≤maxLen)
  (hsize:w.heap.size≤w'.heap.size) (hblk:∀k,k<w.heap.size→k≠g→w'.heap[k]? = w.heap[k]?)
  (hold:∀o v,K.M g o=some v→o<n*sz∧cur[o]? = some v)
  (hlen:h1.length=h.length) (h1h:∀(j:Nat) x,h1[j]? = some x→x.live=true→h[j]? = some x∧K.mu j≠some g)
  (hZE:∀i,K.mu i=some g→K.Z g=cap∧K.E g=sz) {n':Nat} (hn':dl K.R n'=n) :
  WR (K.withTok h.length g n sz cap cur) (h1++[.tok ty sz n']) w'∧Ext K (K.withTok h.length g n sz cap cur):=by
 have hfr:=H.fresh _ (Nat.le_refl _);have hx:Ext K (K.withTok h.length g n sz cap cur):=by
  refine⟨fun b o v hm=>?_,fun i b hi=>?_,fun i b hi=>?_,fun i b hi=>?_,rfl,fun _ _ _=>rfl⟩
  ·show (if b=g∧o<n*sz then(K.M b o).or cur[o]? else K.M b o)=some v
   split
   ·rw[hm];rfl
   ·exact hm
  ·show (if i=h.length then some g else K.mu i)=some b
   by_cases e:i=h.length
   ·subst e;rw[hfr] at hi;cases hi
   ·rw[if_neg e];exact hi
  ·show (if b=g then cap else K.Z b)=K.Z b
   by_cases e:b=g
   ·subst e;rw[if_pos rfl];exact(hZE i hi).1.symm
   ·rw[if_neg e]
  ·show (if b=g then sz else K.E b)=K.E b
   by_cases e:b=g
   ·subst e;rw[if_pos rfl];exact(hZE i hi).2.symm
   ·rw[if_neg e]
 have hnew:(K.withTok h.length g n sz cap cur).mu h.length=some g:=by show (if _ then _ else _)=_;rw[if_pos rfl]
 have hmo:∀i b,(K.withTok h.length g n sz cap cur).mu i=some b→(i=h.length∧b=g)∨(i≠h.length∧K.mu i=some b):=by
  intro i b hi;change (if i=h.length then some g else K.mu i)=some b at hi;by_cases e:i=h.length
  ·rw[if_pos e] at hi;cases hi;exact .inl ⟨e,rfl⟩
  ·rw[if_neg e] at hi;exact .inr ⟨e,hi⟩
 have hMo:∀b o v,(K.withTok h.length g n sz cap cur).M b o=some v→(b=g∧o<n*sz∧cur[o]? = some v)∨(K.M b o=some v):=by
  intro b o v hm;change (if b=g∧o<n*sz then(K.M b o).or cur[o]? else K.M b o)=some v at hm;by_cases e:b=g∧o<n*sz
  ·rw[if_pos e] at hm
   cases hk:K.M b o with
   |none=>rw[hk] at hm;exact .inl ⟨e.1,e.2,hm⟩
   |some u=>rw[hk] at hm;exact .inr hm
  ·rw[if_neg e] at hm;exact .inr hm
 have hMn:∀b,b≠g→∀o,(K.withTok h.length g n sz cap cur).M b o=K.M b o:=by
  intro b hb o;show (if b=g∧o<n*sz then(K.M b o).or cur[o]? else K.M b o)=_;rw[if_neg (fun h=>hb h.1)]
 have hgl:=Dk hg;refine⟨⟨fun i hi=>?_,fun i hi=>?_,fun i b hi=>?_,fun i ty' cells' hi=>?_,fun i ks' vs' hi=>?_,fun t ty' sz' len ht=>?_,fun i j x y b hi hj hlx hly hmi hmj=>?_,fun i ty' cells' b hi hm o=>?_,fun b o v hm=>?_,fun i ty' sz' p' hi=>?_⟩,hx⟩
 ·simp[hlen] at hi
  show (if i=h.length then some g else K.mu i)=none;rw[if_neg (by omega)];exact H.fresh i (by omega)
 ·by_cases e:i=h.length
  ·subst e;exact⟨_,hnew⟩
  ·obtain⟨b,hb⟩:=H.has i (by simp[hlen] at hi;omega)
   exact⟨b,hx.mu i b hb⟩
 ·rcases hmo i b hi with⟨_,rfl⟩|⟨_,hi⟩
  ·exact hgl
  ·have:=H.lt i b hi;omega
 ·rcases eD hi with⟨hl,hi⟩|⟨rfl,hi2⟩
  ·obtain⟨hh,hne⟩:=h1h i _ hi rfl
   obtain⟨b,cs',hm,hw,hs,hvl⟩:=H.box i ty' cells' hh;refine⟨b,cs',hx.mu i b hm,?_,?_,hvl.mono hx⟩
   ·rw[hblk b (H.lt i b hm) (fun e=>hne (by rw[←e];exact hm))];exact hw
   ·rw[hx.Z i b hm,hx.E i b hm];exact hs
  ·cases hi2
 ·rcases eD hi with⟨hl,hi⟩|⟨rfl,hi2⟩
  ·obtain⟨hh,hne⟩:=h1h i _ hi rfl
   obtain⟨b,ents,clock,hm,hw,hvl⟩:=H.map i ks' vs' hh;refine⟨b,ents,clock,hx.mu i b hm,?_,hvl.mono hx⟩;rw[hblk b (H.lt i b hm) (fun e=>hne (by rw[←e];exact hm))];exact hw
  ·cases hi2
 ·rcases eD ht with⟨hl,ht⟩|⟨rfl,ht2⟩
  ·obtain⟨hh,hne⟩:=h1h t _ ht rfl
   obtain⟨b,cs',hm,hw,h3,h4,h5,h6⟩:=H.tok t ty' sz' len hh;have hbg:b≠g:=fun e=>hne (by rw[←e];exact hm)
   refine⟨b,cs',hx.mu t b hm,?_,?_,?_,?_,?_⟩
   ·rw[hblk b (H.lt t b hm) hbg];exact hw
   ·rw[hx.Z t b hm];exact h3
   ·rw[hx.E t b hm];exact h4
   ·rw[hx.Z t b hm];exact h5
   ·intro o ho;rw[hMn b hbg];exact h6 o ho
  ·cases ht2
   rw[hlen] at *;refine⟨g,cur,hnew,hg,?_,?_,?_,?_⟩
   ·show cur.size=(if g=g then cap else K.Z g)*sz;rw[if_pos rfl];exact hcs
   ·show (if g=g then sz else K.E g)=sz;rw[if_pos rfl]
   ·show (if g=g then cap else K.Z g)≤maxLen;rw[if_pos rfl];exact hcap
   ·intro o ho
    change dl K.R n'*sz≤o at ho;rw[hn'] at ho;show (if g=g∧o<n*sz then(K.M g o).or cur[o]? else K.M g o)=none;rw[if_neg (by omega)];cases hm:K.M g o with
    |none=>rfl
    |some v=>have:=(hold o v hm).1;omega
 ·rcases hmo i b hmi with⟨hi1,hb⟩|⟨hi1,hmi⟩
  ·rcases hmo j b hmj with⟨hj1,_⟩|⟨hj1,hmj⟩
   ·omega
   ·rcases eD hj with⟨_,hj⟩|⟨e,_⟩
    ·exact absurd (by rw[←hb];exact hmj) (h1h j y hj hly).2
    ·exact absurd (by rw[e,hlen]) hj1
  ·rcases eD hi with⟨_,hi⟩|⟨e,_⟩
   ·rcases hmo j b hmj with⟨hj1,hb⟩|⟨hj1,hmj⟩
    ·exact absurd (by rw[←hb];exact hmi) (h1h i x hi hlx).2
    ·rcases eD hj with⟨_,hj⟩|⟨e,_⟩
     ·exact H.inj i j x y b (h1h i x hi hlx).1 (h1h j y hj hly).1 hlx hly hmi hmj
     ·exact absurd (by rw[e,hlen]) hj1
   ·exact absurd (by rw[e,hlen]) hi1
 ·rcases eD hi with⟨_,hi⟩|⟨e,hi2⟩
  ·obtain⟨hh,hne⟩:=h1h i _ hi rfl
   rcases hmo i b hm with⟨e,_⟩|⟨hi1,hm⟩
   ·have:i<h1.length:=by
     by_cases hl:i<h1.length
     ·exact hl
     ·rw[List.getElem?_eq_none (by omega)] at hi;cases hi
    omega
   ·rw[hMn b (fun e=>hne (by rw[←e];exact hm))]
    exact H.apart i ty' cells' b hh hm o
  ·cases hi2
 ·rcases hMo b o v hm with⟨rfl,_,hc⟩|hm2
  ·simp[World.cell?,hg,hc]
  ·by_cases e:b=g
   ·subst e
    simp[World.cell?,hg,(hold o v hm2).2]
   ·have hc:=H.agr b o v hm2
    rw[World.cell?_of_block (w:=w) (hblk b (sZ hc) e)];exact hc
 ·rcases eD hi with⟨hl,hi⟩|⟨rfl,hi2⟩
  ·obtain⟨hh,hne⟩:=h1h i _ hi rfl
   obtain⟨b,cs',hm,hw,hs,ha⟩:=H.arr i ty' sz' p' hh;have hbg:b≠g:=fun e=>hne (by rw[←e];exact hm)
   refine⟨b,cs',hx.mu i b hm,?_,?_,ha.go (fun o=>by rw[hMn b hbg];exact ha.none o) rfl rfl (hx.Z i b hm) (hx.E i b hm) (fun _ _ _ h=>h.mono hx.M)⟩
   ·rw[hblk b (H.lt i b hm) hbg];exact hw
   ·rw[hx.Z i b hm,hx.E i b hm];exact hs
  ·cases hi2
theorem WR.store{K:Kn}{h:List ah}{w w':World}(H:WR K h w)(i:Nat)(x0 x:ah)(g:Nat)(hi:h[i]? = some x0)(hl0:x0.live=true)(hlx0:x.live=true)(hm:K.mu i=some g)
  (hx:Px K x i g w') (hM:∀o,K.M g o=none) (hsize:w'.heap.size=w.heap.size) (hblk:∀k,k≠g→w'.heap[k]? = w.heap[k]?) :
  WR K (h.set i x) w':=by
 have hil:i<h.length:=by
  by_cases hl:i<h.length
  ·exact hl
  ·rw[List.getElem?_eq_none (by omega)] at hi;cases hi
 have hget:∀(j:Nat) y,(h.set i x)[j]? = some y→(j=i∧y=x)∨(j≠i∧h[j]? = some y):=by
  intro j y hj;rw[List.getElem?_set] at hj;by_cases e:i=j
  ·subst e;rw[if_pos rfl,if_pos hil] at hj;cases hj;exact .inl ⟨rfl,rfl⟩
  ·rw[if_neg e] at hj;exact .inr ⟨fun h=>e h.symm,hj⟩
 have hlive:∀(j:Nat) y,(h.set i x)[j]? = some y→y.live=true→∃y,h[j]? = some y∧y.live=true:=by
  intro j y hj hl;rcases hget j y hj with⟨rfl,_⟩|⟨_,hj⟩
  ·exact⟨_,hi,hl0⟩
  ·exact⟨y,hj,hl⟩
 refine⟨fun j hj=>H.fresh j (by simpa using hj),fun j hj=>H.has j (by simpa using hj),fun j b hj=>by rw[hsize];exact H.lt j b hj,fun j ty' c hj=>?_,fun j ks' vs' hj=>?_,fun t ty' sz len ht=>?_,fun a b x y q ha hb hlx hly hma hmb=>?_,fun j ty' c b hj hmj o=>?_,fun b o v hmv=>?_,fun j ty' sz' p' hj=>?_⟩
 ·rcases hget j _ hj with⟨rfl,e⟩|⟨hne,hj⟩
  ·subst e;obtain⟨cs,h1,h2,h3⟩:=hx;exact⟨g,cs,hm,h1,h2,h3⟩
  ·obtain⟨b,cs2,hm2,hw2,hv2⟩:=H.box j ty' c hj
   refine⟨b,cs2,hm2,?_,hv2⟩;rw[hblk b (fun e=>hne (by subst e;exact H.inj j i _ _ b hj hi rfl hl0 hm2 hm))];exact hw2
 ·rcases hget j _ hj with⟨rfl,e⟩|⟨hne,hj⟩
  ·subst e;obtain⟨ents,clock,h1,h2⟩:=hx;exact⟨g,ents,clock,hm,h1,h2⟩
  ·obtain⟨b,ents,clock,hm2,hw2,hv2⟩:=H.map j ks' vs' hj
   refine⟨b,ents,clock,hm2,?_,hv2⟩;rw[hblk b (fun e=>hne (by subst e;exact H.inj j i _ _ b hj hi rfl hl0 hm2 hm))];exact hw2
 ·rcases hget t _ ht with⟨_,e⟩|⟨hne,ht⟩
  ·subst e;exact hx.elim
  ·obtain⟨b,cs2,hm2,hw2,rest⟩:=H.tok t ty' sz len ht
   refine⟨b,cs2,hm2,?_,rest⟩;rw[hblk b (fun e=>hne (by subst e;exact H.inj t i _ _ b ht hi rfl hl0 hm2 hm))];exact hw2
 ·obtain⟨x',hx',hlx'⟩:=hlive a x ha hlx
  obtain⟨y',hy',hly'⟩:=hlive b y hb hly;exact H.inj a b x' y' q hx' hy' hlx' hly' hma hmb
 ·rcases hget j _ hj with⟨rfl,e⟩|⟨hne,hj⟩
  ·rw[hm] at hmj;cases hmj;exact hM o
  ·exact H.apart j ty' c b hj hmj o
 ·have hbg:b≠g:=fun e=>by subst e;rw[hM o] at hmv;cases hmv
  rw[World.cell?_of_block (w:=w) (hblk b hbg)];exact H.agr b o v hmv
 ·rcases hget j _ hj with⟨rfl,e⟩|⟨hne,hj⟩
  ·subst e;obtain⟨cs,h1,h2,h3⟩:=hx;exact⟨g,cs,hm,h1,h2,h3⟩
  ·obtain⟨b,cs2,hm2,hw2,hv2⟩:=H.arr j ty' sz' p' hj
   refine⟨b,cs2,hm2,?_,hv2⟩;rw[hblk b (fun e=>hne (by subst e;exact H.inj j i _ _ b hj hi rfl hl0 hm2 hm))];exact hw2
theorem WR.mapM{K:Kn}{h:List ah}{w:World}(H:WR K h w){g:Nat}{ents:Array MapEntry}{clock:Nat}(hg:w.heap[g]? = some (.map ents clock))(o:Nat):K.M g o=none:=by
 cases hm:K.M g o with
 |none=>rfl
 |some v=>have:=H.agr g o v hm;simp[World.cell?,hg] at this
def Kn.liveB(K:Kn)(h:List ah)(b:Nat):Prop:=∃(i:Nat) (x:ah),h[i]? = some x∧x.live=true∧K.mu i=some b
structure Step(K:Kn)(h:List ah)(w:World)(K':Kn)(h':List ah)(w':World):Prop where
 wr:WR K' h' w'
 ext:Ext K K'
 frm:jv (K.liveB h) w w'
 zs:∀g,g<w.heap.size→K'.Z g=K.Z g∧K'.E g=K.E g
 ms:∀g o,g<w.heap.size→¬K.liveB h g→K'.M g o=K.M g o
 mu:∀k b,K'.mu k=some b→K.mu k=some b∨w.heap.size≤b∨K.liveB h b
 live:∀b,K'.liveB h' b→b<w.heap.size→K.liveB h b
 len:h.length≤h'.length
theorem Step.refl{K:Kn}{h:List ah}{w:World}(H:WR K h w):Step K h w K h w:=
 ⟨H,Ext.refl K,jv.refl _ w,fun _ _=>⟨rfl,rfl⟩,fun _ _ _ _=>rfl,fun _ _ h=>.inl h,fun _ h _=>h,Nat.le_refl _⟩
theorem Step.trans{K K1 K2:Kn}{h h1 h2:List ah}{w w1 w2:World}(a:Step K h w K1 h1 w1)(b:Step K1 h1 w1 K2 h2 w2):Step K h w K2 h2 w2 where
 wr:=b.wr
 ext:=a.ext.trans b.ext
 frm:=a.frm.trans b.frm (fun i hi ht=>a.live i ht hi)
 zs:=fun g hg=>by
  have h1:=a.zs g hg;have h2:=b.zs g (Nat.lt_of_lt_of_le hg a.frm.size);exact⟨h2.1.trans h1.1,h2.2.trans h1.2⟩
 ms:=fun g o hg hl=>(b.ms g o (Nat.lt_of_lt_of_le hg a.frm.size) (fun h=>hl (a.live g h hg))).trans (a.ms g o hg hl)
 mu:=fun k c hk=>by
  have hsz:=a.frm.size;rcases b.mu k c hk with h|h|h
  ·exact a.mu k c h
  ·exact .inr (.inl (Nat.le_trans hsz h))
  ·by_cases hc:c<w.heap.size
   ·exact .inr (.inr (a.live c h hc))
   ·exact .inr (.inl (Nat.le_of_not_lt hc))
 live:=fun c hl hc=>a.live c (b.live c hl (Nat.lt_of_lt_of_le hc a.frm.size)) hc
 len:=Nat.le_trans a.len b.len
theorem Step.put{K:Kn}{h h1:List ah}{w w':World}(H:WR K h w)(x:ah)(g z e:Nat)(hx:Px (K.withBox h.length g z e) x h.length g w')(hgs:g<w'.heap.size)
  (hfr:jv (fun k=>k=g) w w') (hM:∀o,K.M g o=none)
  (hlen:h1.length=h.length) (h1h:∀(j:Nat) x,h1[j]? = some x→x.live=true→h[j]? = some x∧K.mu j≠some g)
  (hZE:∀i,K.mu i=some g→K.Z g=z∧K.E g=e) (hgl:w.heap.size≤g∨K.liveB h g) :
  Step K h w (K.withBox h.length g z e) (h1++[x]) w':=by
 obtain⟨hw,hxt⟩:=H.put x g z e hx hgs hfr.size (fun k hk hne=>hfr.block k hk hne) hM hlen h1h hZE;have hmu:∀k b,(K.withBox h.length g z e).mu k=some b→(k=h.length∧b=g)∨K.mu k=some b:=by
  intro k b hk;change (if k=h.length then some g else K.mu k)=some b at hk;by_cases e:k=h.length
  ·rw[if_pos e] at hk;cases hk;exact .inl ⟨e,rfl⟩
  ·rw[if_neg e] at hk;exact .inr hk
 refine⟨hw,hxt,hfr.mono (fun i hi e=>?_),fun b hb=>?_,fun b o hb hl=>rfl,fun k b hk=>?_,fun b hl hb=>?_,by simp[hlen]⟩
 ·subst e
  rcases hgl with h|h
  ·omega
  ·exact h
 ·show (if b=g then z else K.Z b)=K.Z b∧(if b=g then e else K.E b)=K.E b
  by_cases e:b=g
  ·subst e
   rcases hgl with h|⟨i,x,_,_,hm⟩
   ·omega
   ·have:=hZE i hm
    rw[if_pos rfl,if_pos rfl];exact⟨this.1.symm,this.2.symm⟩
  ·rw[if_neg e,if_neg e];exact⟨rfl,rfl⟩
 ·rcases hmu k b hk with⟨_,rfl⟩|h
  ·exact .inr hgl
  ·exact .inl h
 ·obtain⟨i,x,hi,hlx,hm⟩:=hl
  rcases hmu i b hm with⟨_,rfl⟩|h2
  ·rcases hgl with h|h
   ·omega
   ·exact h
  ·rcases eD hi with⟨_,hi⟩|⟨e,_⟩
   ·exact⟨i,x,(h1h i x hi hlx).1,hlx,h2⟩
   ·rw[e,hlen,H.fresh _ (Nat.le_refl _)] at h2;cases h2
theorem dP(K:Kn)(i g z e:Nat):(K.withBox i g z e).Z g=z:=by show (if g=g then z else K.Z g)=z;rw[if_pos rfl]
theorem di(K:Kn)(i g z e:Nat):(K.withBox i g z e).E g=e:=by show (if g=g then e else K.E g)=e;rw[if_pos rfl]
theorem Step.fresh{K:Kn}{h:List ah}{w w':World}(H:WR K h w)(x:ah)(z e:Nat)(ob:Obj)(hw':w'.heap=w.heap.push ob)(hfr:jv (fun _=>False) w w')(hx:Ext K (K.withBox h.length w.heap.size z e)→Px (K.withBox h.length w.heap.size z e) x h.length w.heap.size w') :
  Step K h w (K.withBox h.length w.heap.size z e) (h++[x]) w':=by
 have hno:∀i,K.mu i≠some w.heap.size:=fun i hm=>by have:=H.lt i _ hm;omega
 exact Step.put H x w.heap.size z e (hx (Ext.withBox (H.fresh _ (Nat.le_refl _)) (fun i hm=>absurd hm (hno i)))) (by rw[hw'];simp) (hfr.mono (fun _ _ h=>h.elim)) (fun o=>H.noM (Nat.le_refl _) o) rfl
  (fun j x hj _=>⟨hj,hno j⟩) (fun i hm=>absurd hm (hno i)) (.inl (Nat.le_refl _))
theorem Step.allocBox{K:Kn}{h:List ah}{w:World}(H:WR K h w)(ty:TypeId)(cells:List AV)(cs:Array Value)(hv:VL K cells cs.toList) :
  Step K h w (K.withBox h.length w.heap.size 1 cs.size) (h++[.box ty cells]) (w.alloc (.cells cs ty)):=by
 refine Step.fresh H (.box ty cells) 1 cs.size (.cells cs ty) rfl ⟨rfl,rfl,rfl,by simp,fun k hk _=>Below.heap_alloc w _ k hk⟩ (fun hx=>?_);refine⟨cs,heap_alloc_new w _,?_,?_⟩
 ·rw[dP,di];exact⟨by omega,by decide⟩
 ·have hl:cells.length=cs.toList.length:=hv.1
  rw[hl,List.take_length];exact hv.mono hx
theorem Step.withTok{K:Kn}{h h1:List ah}{w w':World}(H:WR K h w)(ty:TypeId)(g n sz cap:Nat)(cur:Array Value)
  (hg:w'.heap[g]? = some (.cells cur ty (0,0))) (hcs:cur.size=cap*sz) (hcap:cap≤maxLen)
  (hfr:jv (fun k=>k=g) w w')
  (hold:∀o v,K.M g o=some v→o<n*sz∧cur[o]? = some v)
  (hlen:h1.length=h.length) (h1h:∀(j:Nat) x,h1[j]? = some x→x.live=true→h[j]? = some x∧K.mu j≠some g)
  (hZE:∀i,K.mu i=some g→K.Z g=cap∧K.E g=sz) (hgl:w.heap.size≤g∨K.liveB h g) {n':Nat} (hn':dl K.R n'=n) :
  Step K h w (K.withTok h.length g n sz cap cur) (h1++[.tok ty sz n']) w':=by
 obtain⟨hw,hx⟩:=H.withTok ty g n sz cap cur hg hcs hcap hfr.size (fun k hk hne=>hfr.block k hk hne) hold hlen h1h hZE hn';have hmu:∀k b,(K.withTok h.length g n sz cap cur).mu k=some b→(k=h.length∧b=g)∨K.mu k=some b:=by
  intro k b hk;change (if k=h.length then some g else K.mu k)=some b at hk;by_cases e:k=h.length
  ·rw[if_pos e] at hk;cases hk;exact .inl ⟨e,rfl⟩
  ·rw[if_neg e] at hk;exact .inr hk
 refine⟨hw,hx,hfr.mono (fun i hi e=>?_),fun b hb=>?_,fun b o hb hl=>?_,fun k b hk=>?_,fun b hl hb=>?_,by simp[hlen]⟩
 ·subst e
  rcases hgl with h|h
  ·omega
  ·exact h
 ·show (if b=g then cap else K.Z b)=K.Z b∧(if b=g then sz else K.E b)=K.E b
  by_cases e:b=g
  ·subst e
   rcases hgl with h|⟨i,x,_,_,hm⟩
   ·omega
   ·have:=hZE i hm
    rw[if_pos rfl,if_pos rfl];exact⟨this.1.symm,this.2.symm⟩
  ·rw[if_neg e,if_neg e];exact⟨rfl,rfl⟩
 ·show (if b=g∧o<n*sz then(K.M b o).or cur[o]? else K.M b o)=K.M b o
  rw[if_neg];rintro⟨rfl,_⟩;rcases hgl with h|h
  ·omega
  ·exact hl h
 ·rcases hmu k b hk with⟨_,rfl⟩|h
  ·exact .inr hgl
  ·exact .inl h
 ·obtain⟨i,x,hi,hlx,hm⟩:=hl
  rcases hmu i b hm with⟨_,rfl⟩|h2
  ·rcases hgl with h|h
   ·omega
   ·exact h
  ·rcases eD hi with⟨_,hi⟩|⟨e,_⟩
   ·exact⟨i,x,(h1h i x hi hlx).1,hlx,h2⟩
   ·rw[e,hlen,H.fresh _ (Nat.le_refl _)] at h2;cases h2
theorem Step.store{K:Kn}{h:List ah}{w w':World}(H:WR K h w)(i:Nat)(x0 x:ah)(g:Nat)(hi:h[i]? = some x0)(hl0:x0.live=true)(hlx:x.live=true)(hm:K.mu i=some g)
  (hx:Px K x i g w') (hM:∀o,K.M g o=none) (hfr:jv (fun k=>k=g) w w') (hsize:w'.heap.size=w.heap.size) (hblk:∀k,k≠g→w'.heap[k]? = w.heap[k]?) :
  Step K h w K (h.set i x) w':=by
 refine⟨H.store i x0 x g hi hl0 hlx hm hx hM hsize hblk,Ext.refl K,hfr.mono (fun b _ e=>?_),fun _ _=>⟨rfl,rfl⟩,fun _ _ _ _=>rfl,fun _ _ h=>.inl h,fun b hl _=>?_,by simp⟩
 ·subst e;exact⟨i,_,hi,hl0,hm⟩
 ·obtain⟨j,y,hj,hly,hmj⟩:=hl
  rw[List.getElem?_set] at hj;by_cases e:i=j
  ·subst e;exact⟨i,_,hi,hl0,hmj⟩
  ·rw[if_neg e] at hj;exact⟨j,y,hj,hly,hmj⟩
def Kn.setN(K:Kn)(i n:Nat):Kn:={K with N:=fun j=>if j=i then n else K.N j }
theorem XM(K:Kn)(i n:Nat):(K.setN i n).N i=n:=by show (if i=i then n else _)=n;rw[if_pos rfl]
theorem Step.setN{K:Kn}{h:List ah}{w:World}(H:WR K h w)(n:Nat):Step K h w (K.setN h.length n) h w:=by
 have hN:∀i,i≠h.length→(K.setN h.length n).N i=K.N i:=fun i hi=>by show (if i=h.length then n else _)=_;rw[if_neg hi]
 have hmu:∀i g,K.mu i=some g→i≠h.length:=fun i g hi e=>by rw[e,H.fresh _ (Nat.le_refl _)] at hi;cases hi
 have hxt:Ext K (K.setN h.length n):=⟨fun _ _ _ h=>h,fun _ _ h=>h,fun _ _ _=>rfl,fun _ _ _=>rfl,rfl,fun i g hi=>hN i (hmu i g hi)⟩;refine⟨⟨H.fresh,H.has,H.lt,fun i ty cells hi=>let ⟨g,cs,a,b,c,d⟩:=H.box i ty cells hi;⟨g,cs,a,b,c,d.mono hxt⟩,fun i ks vs hi=>let ⟨g,ents,clock,a,b,c⟩:=H.map i ks vs hi;⟨g,ents,clock,a,b,c.mono hxt⟩,H.tok,H.inj,H.apart,H.agr,fun i ty sz p hi=>?_⟩,hxt,jv.refl _ w,fun _ _=>⟨rfl,rfl⟩,fun _ _ _ _=>rfl,fun _ _ h=>.inl h,fun _ h _=>h,Nat.le_refl _⟩;obtain⟨g,cs,hm,hw,hs,ha⟩:=H.arr i ty sz p hi;exact⟨g,cs,hm,hw,hs,ha.go ha.none rfl (hN i (hmu i g hm)) rfl rfl (fun _ _ _ h=>h)⟩
theorem Step.putArr{K:Kn}{h h1:List ah}{w w':World}(H:WR K h w)(ty:TypeId)(sz:Nat)(q:PV)(g z:Nat)(cur:Array Value)(es:List (List PV))
  (hq:aj K.R q=.rows es) (hns:dQ es=true) (hwg:w'.heap[g]? = some (.cells cur ty (0,0))) (hsz:cur.size=z*sz) (hz:z≤maxLen) (hle:es.length≤z)
  (hel:∀k (h:k<es.length),es[k].length=sz) (hcell:∀k (h:k<es.length) j (hj:j<es[k].length),∃v,cur[k*sz+j]? = some v∧PR K.R K.M es[k][j] v)
  (hgs:g<w'.heap.size) (hfr:jv (fun k=>k=g) w w') (hM:∀o,K.M g o=none)
  (hlen:h1.length=h.length) (h1h:∀(j:Nat) x,h1[j]? = some x→x.live=true→h[j]? = some x∧K.mu j≠some g)
  (hZE:∀i,K.mu i=some g→K.Z g=z∧K.E g=sz) (hgl:w.heap.size≤g∨K.liveB h g) :
  ∃K',Step K h w K' (h1++[.arr ty sz q]) w'∧K'.mu h.length=some g∧K'.N h.length=es.length∧K'.Z g=z∧K'.E g=sz:=by
 have s1:=Step.setN H es.length;have hmu0:∀i b,K.mu i=some b→i≠h.length:=fun i b hi e=>by rw[e,H.fresh _ (Nat.le_refl _)] at hi;cases hi
 have s2:=Step.put (K:=K.setN h.length es.length) s1.wr (h1:=h1) (w':=w') (.arr ty sz q) g z sz
  ⟨cur,hwg,by rw[dP,di];exact⟨hsz,hz⟩,di _ _ _ _ _,hM,es,hq,hns,(XM K h.length es.length).symm,by rw[dP];exact hle,fun k hk=>by rw[di];exact hel k hk,fun k hk j hj=>by rw[di];exact hcell k hk j hj⟩
  hgs hfr hM hlen h1h hZE hgl
 refine⟨_,s1.trans s2,?_,XM K h.length es.length,dP _ _ _ _ _,di _ _ _ _ _⟩;show (if h.length=h.length then some g else _)=some g;rw[if_pos rfl]
def aP{α:Type}(P:Program):Sem α→Option α
 |.pure a=>some a
 |.program k=>aP P (k P)
 |.mark _ k=>aP P k
 |_=>none
theorem dF{α:Type}{P:Program}{s:Sem α}{a:α}(h:aP P s=some a)(w:World):s.run P w=.ok a w:=by
 induction s with
 |pure b=>simp only[aP] at h;cases h;rfl
 |program k ih=>simp only[aP] at h;simp only[Sem.run];exact ih P h
 |mark m k ih=>simp only[aP] at h;simp only[Sem.run];exact ih h
 |_=>simp[aP] at h
abbrev Env:=List (Nat×AV)
def look:Env→Nat→Option AV
 |[],_=>none
 |(k,v)::r,d=>match Nat.beq k d with
  |true=>some v
  |false=>look r d
def Vm(sl:Env):Operand→Option AV
 |.tmp t=>look sl t
 |.const v=>if sF v then some (.pv (.lit v)) else none
 |.func f=>match Nat.blt f qO with
  |true=>some (.fn f [])
  |false=>none
 |.global g=>match asc g with
  |some cs=>if cs.all sF then some (.cptr (cs.map .lit)) else none
  |none=>none
theorem VR.undef(K:Kn):VR K (.tup []) Go.undef:=.tup [] [] rfl (fun i h=>by simp at h)
def aU(K:Kn)(n:Nat)(e:Env)(tm:Array Value):Prop:=n≤tm.size∧∀d v,look e d=some v→VR K v (tm.getD d Go.undef)
theorem aU.mono{K K':Kn}{n:Nat}{e:Env}{tm:Array Value}(h:aU K n e tm)(x:Ext K K'):aU K' n e tm:=⟨h.1,fun d v hd=>(h.2 d v hd).mono x⟩
theorem kV{K:Kn}{n:Nat}{sl:Env}{a:Act}(h:aU K n sl a.tmps){x:Operand}{v:AV}(hx:Vm sl x=some v):VR K v (a.eval x):=by
 cases x with
 |tmp t=>exact h.2 t v hx
 |const c=>
  simp only[Vm] at hx;split at hx
  ·rename_i hp;cases hx;exact .pv (.lit c hp)
  ·cases hx
 |func f=>
  simp only[Vm] at hx;split at hx
  ·rename_i hb;cases hx;exact .fn f [] [] rfl (fun i h=>by simp at h) (Nat.le_of_ble_eq_true hb)
  ·cases hx
 |global g=>
  simp only[Vm] at hx;split at hx
  ·rename_i cs hg
   split at hx
   ·rename_i hp
    cases hx;refine .cptr (cs.map .lit) g 0 (fun j=>cs.getD j Go.undef) (fun j hj=>?_) (fun j hj=>?_)
    ·rw[List.length_map] at hj
     rw[Nat.zero_add];refine K.gl g cs hg j _ ?_;rw[List.getD_eq_getElem?_getD,List.getElem?_eq_getElem hj];rfl
    ·rw[List.length_map] at hj
     rw[List.getElem_map,List.getD_eq_getElem?_getD,List.getElem?_eq_getElem hj];rw[List.all_eq_true] at hp;exact .lit _ (hp _ (List.getElem_mem hj))
   ·cases hx
  ·cases hx
def aqL:AV→Option Value
 |.pv (.lit v)=>some v
 |_=>none
def Zh:List AV→Option (List Value)
 |[]=>some []
 |a::l=>match aqL a,Zh l with
  |some v,some vs=>some (v::vs)
  |_,_=>none
def AV.val? : AV→Option Value
 |.pv (.lit v)=>some v
 |.agg l=>(Zh l).map fun vs=>.agg vs.toArray
 |_=>none
theorem adi{K:Kn}{a:AV}{v u:Value}(h:VR K a v)(hu:aqL a=some u):v=u:=by
 cases h with
 |pv h=>cases h with
  |lit v hp=>cases hu;rfl
  |_=>cases hu
 |_=>cases hu
theorem Uo{K:Kn}:∀{l:List AV} {cs us:List Value},VL K l cs→Zh l=some us→cs=us
 |[],cs,us,h,hu=>by
  cases hu;exact List.eq_nil_of_length_eq_zero h.1.symm
 |a::l,[],us,h,_=>by have:=h.1;simp at this
 |a::l,c::cs,us,h,hu=>by
  rw[Zh] at hu;split at hu
  ·rename_i v vs h1 h2
   cases hu;have e1:=adi (h.2 0 (by simp) (by simp)) h1;have e2:=Uo (cs:=cs) ⟨by simpa using h.1,fun i hi hi'=>h.2 (i+1) (by simpa using hi) (by simpa using hi')⟩ h2;simp only[List.getElem_cons_zero] at e1;rw[e1,e2]
  ·cases hu
theorem bW{K:Kn}{a:AV}{v u:Value}(h:VR K a v)(hu:a.val? = some u):v=u:=by
 cases h with
 |pv h=>cases h with
  |lit v hp=>cases hu;rfl
  |_=>cases hu
 |agg l cs hl h=>
  simp only[AV.val?] at hu;cases hL:Zh l with
  |none=>rw[hL] at hu;cases hu
  |some vs=>
   rw[hL] at hu;cases hu;rw[Uo ⟨hl,h⟩ hL]
 |_=>cases hu
def pu(v:Value):Option AV:=if sF v then some (.pv (.lit v)) else none
theorem fT{K:Kn}{v:Value}{a:AV}(h:pu v=some a):VR K a v:=by
 unfold pu at h;split at h
 ·rename_i hp;cases h;exact .pv (.lit v hp)
 ·cases h
def jS(P:Program)(t:TypeId):Option Nat:=(P.info? t).map (·.size)
def agn(P:Program)(t:TypeId):Option Bool:=match P.underlying t with
 |some (.struct _)|some (.array _ _)=>some true
 |some _=>some false
 |none=>none
theorem dV{P:Program}{t:TypeId}{n:Nat}(h:jS P t=some n)(w:World):(sizeOf t).run P w=.ok n w:=by
 unfold jS at h;cases hi:P.info? t with
 |none=>rw[hi] at h;cases h
 |some i=>rw[hi] at h;cases h;simp[sizeOf,typeInfo,hi]
theorem zV{P:Program}{t:TypeId}{b:Bool}(h:agn P t=some b)(w:World):(isAgg t).run P w=.ok b w:=by
 unfold agn at h;cases hu:P.underlying t with
 |none=>rw[hu] at h;cases h
 |some d=>
  rw[hu] at h;cases d<;>(cases h;simp[isAgg,run_underlying hu])
def Ip(P:Program)(t:TypeId)(l:List AV):Option AV:=
 match agn P t with
 |some true=>match jS P t with
  |some n=>if n≤l.length then some (.agg (l.take n)) else none
  |none=>none
 |some false=>l.head?
 |none=>none
theorem VL.take{K:Kn}{l:List AV}{cs:List Value}(h:VL K l cs)(n:Nat):VL K (l.take n) (cs.take n):=by
 refine⟨by simp[h.1],fun i hi hi'=>?_⟩;simp only[List.getElem_take];exact h.2 i (by simp at hi;omega) (by simp at hi';omega)
theorem VL.drop{K:Kn}{l:List AV}{cs:List Value}(h:VL K l cs)(n:Nat):VL K (l.drop n) (cs.drop n):=by
 refine⟨by simp[h.1],fun i hi hi'=>?_⟩;simp only[List.getElem_drop];exact h.2 (n+i) (by simp at hi;omega) (by simp at hi';omega)
theorem VL.append{K:Kn}{l l':List AV}{cs cs':List Value}(h:VL K l cs)(h':VL K l' cs'):VL K (l++l') (cs++cs'):=by
 refine⟨by simp[h.1,h'.1],fun i hi hi'=>?_⟩;have e1:=h.1;have e2:=h'.1;by_cases hl:i<l.length
 ·rw[List.getElem_append_left hl,List.getElem_append_left (by omega)]
  exact h.2 i hl (by omega)
 ·rw[List.getElem_append_right (by omega),List.getElem_append_right (by omega)]
  simp only[List.length_append] at hi hi';have:=h'.2 (i-l.length) (by omega) (by omega)
  rwa [show cs'[i-cs.length]'(by omega)=cs'[i-l.length]'(by omega) from by congr 1;omega]
theorem VL.at_{K:Kn}{l:List AV}{cs:List Value}(h:VL K l cs){i:Nat}{a:AV}(hi:l[i]? = some a):∃c,cs[i]? = some c∧VR K a c:=by
 have hl:i<l.length:=by
  by_cases hh:i<l.length
  ·exact hh
  ·rw[List.getElem?_eq_none (by omega)] at hi;cases hi
 rw[List.getElem?_eq_getElem hl] at hi;cases hi;have hl':i<cs.length:=by have:=h.1;omega
 exact⟨cs[i],List.getElem?_eq_getElem hl',h.2 i hl hl'⟩
theorem uQ{P:Program}{K:Kn}{t:TypeId}{l:List AV}{cs:List Value}{v:AV}(hv:VL K l cs)(h:Ip P t l=some v)(g o:Nat) :
  ∃u,VR K v u∧∀w:World,(∀j c,cs[j]? = some c→w.cell? ⟨g,o+j,none⟩=some c)→(loadVar t ⟨g,o,none⟩).run P w=.ok u w:=by
 unfold Ip at h;split at h
 ·rename_i ha
  split at h
  ·rename_i n hn
   split at h
   ·rename_i hle
    cases h;refine⟨.agg (cs.take n).toArray,.agg _ _ (hv.take n).1 (hv.take n).2,fun w hc=>?_⟩;have hlen:(cs.take n).length=n:=by have:=hv.1;simp;omega
    have hl:=run_loadCells_list (P:=P) w ⟨g,o,none⟩ (cs.take n) (fun j c hj=>by
     rw[Addr.add_lit];rw[List.getElem?_take] at hj;split at hj
     ·exact hc j c hj
     ·cases hj)
    rw[hlen] at hl;simp[loadVar,zV ha,dV hn,hl]
   ·cases h
  ·cases h
 ·rename_i ha
  cases l with
  |nil=>cases h
  |cons a l=>
   cases h;obtain⟨c,hc0,hvc⟩:=hv.at_ (i:=0) rfl;refine⟨c,hvc,fun w hc=>?_⟩;have:=hc 0 c hc0;rw[Nat.add_zero] at this;simp[loadVar,zV ha,run_load,this]
 ·cases h
def Nk(P:Program)(t:TypeId)(l:List AV)(off:Nat):Option AV:=
 match agn P t with
 |some true=>(jS P t).map fun n=>.agg ((l.drop off).take n)
 |some false=>l[off]?
 |none=>none
theorem BI{P:Program}{K:Kn}{t:TypeId}{l:List AV}{cs:List Value}{off:Nat}{v:AV}(hv:VL K l cs)(h:Nk P t l off=some v) :
  ∃u,VR K v u∧∀w:World,(part t cs.toArray off).run P w=.ok u w:=by
 unfold Nk at h;split at h
 ·rename_i ha
  cases hn:jS P t with
  |none=>rw[hn] at h;cases h
  |some n=>
   rw[hn] at h;cases h;refine⟨.agg ((cs.drop off).take n).toArray,.agg _ _ ((hv.drop off).take n).1 ((hv.drop off).take n).2,fun w=>?_⟩;simp[part,zV ha,dV hn,List.extract_eq_take_drop]
 ·rename_i ha
  obtain⟨c,hc,hvc⟩:=hv.at_ h;refine⟨c,hvc,fun w=>?_⟩;have:cs.toArray[off]? = some c:=by simpa using hc
  simp[part,zV ha,this]
 ·cases h
def Dv(P:Program)(o:Oper)(ρ:Operand→Value)(K:Kn)(w:World)(v:AV)(dep:Option Nat):Prop:=
 ∃u,VR K v u∧∀w':World,(∀g o c,K.M g o=some c→w'.cell? ⟨g,o,none⟩=some c)→(∀i,dep=some i→∀g,K.mu i=some g→w'.heap[g]? = w.heap[g]?)→
  (execOp ρ o).run P w'=.ok (.value u) w'
def setAt{α:Type}(l:List α)(off:Nat)(vs:List α):List α:=l.take off++vs++l.drop (off+vs.length)
theorem VL.setAt{K:Kn}{l vs:List AV}{cs us:List Value}(h:VL K l cs)(hv:VL K vs us)(off:Nat):VL K (setAt l off vs) (setAt cs off us):=by
 unfold Proofs.YtfphhabaeggenaaGreatDoor.setAt;rw[hv.1];exact((h.take off).append hv).append (h.drop _)
def rM(place:Nat→Option (Nat×Nat)):List AV→List (Nat×AV)→Option (List AV)
 |cells,[]=>some cells
 |cells,(i,v)::rest=>match place i with
  |none=>none
  |some (off,size)=>if v.cells.length≠size∨off+v.cells.length>cells.length then none else rM place (setAt cells off v.cells) rest
theorem OB(off:Nat)(l:List Value)(cs:Array Value)(h:off+l.length≤cs.size) :
  (l.toArray.zipIdx.foldl (fun cs (x:Value×Nat)=>cs.setIfInBounds (off+x.2) x.1) cs).toList=setAt cs.toList off l:=by
 obtain⟨h1,h2⟩:=Great.foldl_set off l 0 cs;have e:l.toArray.zipIdx.foldl (fun cs (x:Value×Nat)=>cs.setIfInBounds (off+x.2) x.1) cs=(l.zipIdx 0).foldl (fun cs (x:Value×Nat)=>cs.setIfInBounds (off+x.2) x.1) cs:=by
  rw[←Array.foldl_toList];simp
 rw[e];apply List.ext_getElem?;intro k;rw[Array.getElem?_toList,h2 k];unfold setAt;by_cases hk:k<off
 ·rw[if_neg (by omega),List.append_assoc,List.getElem?_append_left (by simp;omega),List.getElem?_take,if_pos hk,Array.getElem?_toList]
 ·by_cases hk2:k<off+l.length
  ·rw[if_pos ⟨by omega,by omega,by omega⟩,List.getElem?_append_left (by simp;omega),List.getElem?_append_right (by simp;omega)]
   congr 1;simp;omega
  ·rw[if_neg (by omega),List.getElem?_append_right (by simp;omega),List.getElem?_drop,Array.getElem?_toList]
   congr 1;simp;omega
theorem kS{K:Kn}(place:Nat→Option (Nat×Nat)):∀(ps:List (Nat×AV)) (qs:List (Nat×Value)) (cells:List AV) (cs:Array Value) (out:List AV),
  VL K cells cs.toList→ps.length=qs.length→(∀i (h:i<ps.length) (h':i<qs.length),ps[i].1=qs[i].1∧VR K ps[i].2 qs[i].2)→
  rM place cells ps=some out→∃us,Instr.fill place cs qs=some us∧VL K out us.toList
 |[],[],cells,cs,out,hv,_,_,h=>by cases h;exact⟨cs,rfl,hv⟩
 |[],_::_,_,_,_,_,hl,_,_=>by simp at hl
 |_::_,[],_,_,_,_,hl,_,_=>by simp at hl
 |(i,v)::ps,(j,u)::qs,cells,cs,out,hv,hl,hp,h=>by
  obtain⟨e,hvu⟩:=hp 0 (by simp) (by simp);simp only[List.getElem_cons_zero] at e hvu;subst e;rw[rM] at h;rw[Instr.fill];cases hpl:place i with
  |none=>rw[hpl] at h;cases h
  |some x=>
   obtain⟨off,size⟩:=x;rw[hpl] at h;simp only at h ⊢;split at h
   ·cases h
   ·rename_i hcond
    have hc:=hvu.cells;have hsz:v.cells.length=u.cells.size:=by have:=hc.1;simpa using this
    have hcl:cells.length=cs.size:=by have:=hv.1;simpa using this
    rw[if_neg (by simp;omega)];have hu:u.cells=u.cells.toList.toArray:=by simp
    have hfold:=OB off u.cells.toList cs (by simp;omega);rw[←hu] at hfold;refine kS place ps qs (setAt cells off v.cells) _ out ?_ (by simpa using hl) (fun k hk hk'=>hp (k+1) (by simpa using hk) (by simpa using hk')) h;rw[hfold];exact hv.setAt hc off
def jw(P:Program)(t:TypeId):Option (List AV):=match P.info? t with
 |some i=>match i.zero with
  |some z=>if z.cells.toList.all sF then some (z.cells.toList.map fun v=>.pv (.lit v)) else none
  |none=>none
 |none=>none
theorem bL{K:Kn}{P:Program}{t:TypeId}{l:List AV}(h:jw P t=some l):∃i z,P.info? t=some i∧i.zero=some z∧VL K l z.cells.toList:=by
 unfold jw at h;cases hi:P.info? t with
 |none=>rw[hi] at h;cases h
 |some i=>
  rw[hi] at h;cases hz:i.zero with
  |none=>simp only[hz] at h;cases h
  |some z=>
   simp only[hz] at h;split at h
   ·rename_i hp
    cases h;refine⟨i,z,rfl,hz,by simp,fun k hk hk'=>?_⟩;simp only[List.getElem_map];refine .pv (.lit _ ?_);rw[List.all_eq_true] at hp;exact hp _ (List.getElem_mem _)
   ·cases h
def C9(P:Program):List Field→Option (List (Nat×Nat))
 |[]=>some []
 |f::fs=>match P.info? f.type,C9 P fs with
  |some i,some l=>some ((f.offset,i.size)::l)
  |_,_=>none
theorem ED{P:Program}:∀(fs:List Field) (l:List (Nat×Nat)),C9 P fs=some l→fs.mapM (fun f=>(P.info? f.type).map fun i=>(f.offset,i.size))=some l
 |[],l,h=>by cases h;rfl
 |f::fs,l,h=>by
  rw[C9] at h;split at h
  ·rename_i i r hi hr
   cases h;simp[List.mapM_cons,hi,ED fs r hr]
  ·cases h
def Lc(P:Program)(t:TypeId)(ps:List (Nat×AV)):Option (List AV):=
 match jw P t,P.underlying t with
 |some zc,some (.struct fs)=>match C9 P fs.toList with
  |some pl=>rM (pl[·]?) zc ps
  |none=>none
 |some zc,some (.array _ e)=>match jS P e with
  |some s=>rM (fun i=>some (i*s,s)) zc ps
  |none=>none
 |_,_=>none
theorem Lb{K:Kn}{P:Program}{t:TypeId}{ps:List (Nat×AV)}{qs:List (Nat×Value)}{out:List AV}(hl:ps.length=qs.length)
  (hp:∀i (h:i<ps.length) (h':i<qs.length),ps[i].1=qs[i].1∧VR K ps[i].2 qs[i].2) (h:Lc P t ps=some out) :
  ∃us,P.built t qs=some us∧VL K out us.toList:=by
 unfold Lc at h;split at h
 ·rename_i zc fs hz hu
  obtain⟨i,z,hi,hiz,hvz⟩:=bL (K:=K) hz;split at h
  ·rename_i pl hpl
   obtain⟨us,hf,hv⟩:=kS _ ps qs zc z.cells out hvz hl hp h;refine⟨us,?_,hv⟩;simp only[Program.built,hi,hu,hiz,ED _ _ hpl];simpa using hf
  ·cases h
 ·rename_i zc n e hz hu
  obtain⟨i,z,hi,hiz,hvz⟩:=bL (K:=K) hz;split at h
  ·rename_i s hs
   obtain⟨us,hf,hv⟩:=kS _ ps qs zc z.cells out hvz hl hp h;refine⟨us,?_,hv⟩;unfold jS at hs;cases hie:P.info? e with
   |none=>rw[hie] at hs;cases hs
   |some ie=>
    rw[hie] at hs;cases hs;simp only[Program.built,hi,hu,hiz,hie];exact hf
  ·cases h
 ·cases h
def oZ(ρ:Operand→Option AV):List (Nat×Operand)→Option (List (Nat×AV))
 |[]=>some []
 |(i,x)::l=>match ρ x,oZ ρ l with
  |some v,some r=>some ((i,v)::r)
  |_,_=>none
def gm(ρ:Operand→Value)(l:List (Nat×Operand)):List (Nat×Value):=l.map fun p=>(p.1,ρ p.2)
theorem lm{K:Kn}{ρA:Operand→Option AV}{ρ:Operand→Value}(hρ:∀x v,ρA x=some v→VR K v (ρ x)):∀(l:List (Nat×Operand)) (ps:List (Nat×AV)),oZ ρA l=some ps→
  ps.length=(gm ρ l).length∧∀i (h:i<ps.length) (h':i<(gm ρ l).length),ps[i].1=(gm ρ l)[i].1∧VR K ps[i].2 (gm ρ l)[i].2
 |[],ps,h=>by cases h;exact⟨rfl,fun i h=>by simp at h⟩
 |(i,x)::l,ps,h=>by
  rw[oZ] at h;split at h
  ·rename_i v r hv hr
   cases h;obtain⟨h1,h2⟩:=lm hρ l r hr;refine⟨by simpa[gm] using h1,fun k hk hk'=>?_⟩;cases k with
   |zero=>exact⟨rfl,hρ x v hv⟩
   |succ k=>exact h2 k (by simpa using hk) (by simpa[gm] using hk')
  ·cases h
def lq(ρ:Operand→Option AV):List Operand→Option (List AV)
 |[]=>some []
 |x::l=>match ρ x,lq ρ l with
  |some v,some r=>some (v::r)
  |_,_=>none
theorem ig{K:Kn}{ρA:Operand→Option AV}{ρ:Operand→Value}(hρ:∀x v,ρA x=some v→VR K v (ρ x)):∀(l:List Operand) (vs:List AV),lq ρA l=some vs→VL K vs (l.map ρ)
 |[],vs,h=>by cases h;exact⟨rfl,fun i h=>by simp at h⟩
 |x::l,vs,h=>by
  rw[lq] at h;split at h
  ·rename_i v r hv hr
   cases h;obtain⟨h1,h2⟩:=ig hρ l r hr;refine⟨by simpa using h1,fun k hk hk'=>?_⟩;cases k with
   |zero=>exact hρ x v hv
   |succ k=>exact h2 k (by simpa using hk) (by simpa using hk')
  ·cases h
def Pb(h:List ah)(i:Nat):Option (List AV):=match h[i]? with
 |some (.box _ c)=>some c
 |_=>none
def zL(h:List ah):AV→Option (List AV×Option Nat)
 |.ptr i o=>match Pb h i with
  |some c=>some (c.drop o,some i)
  |none=>none
 |.cptr cs=>some (cs.map .pv,none)
 |_=>none
def rH:AV→Option Int
 |.pv (.lit (.int _ n))=>some n
 |_=>none
def QY:Value→Bool
 |.slice (some _) 0 _=>true
 |.slice none 0 (_+1)=>true
 |_=>false
def rowsOf:AV→Option (List (List PV))
 |.pv (.rows es)=>some es
 |.trows _ es=>some es
 |.pv (.lit v)=>if QY v then some [] else none
 |_=>none
def AV.isThere:AV→Bool
 |.ptr _ _ | .cptr _ | .fn _ _=>true
 |_=>false
def WT:AV→Nat→Option AV
 |.ptr i o,n=>some (.ptr i (o+n))
 |.cptr cs,n=>some (.cptr (cs.drop n))
 |_,_=>none
def agC(s:Nat):AV→AV
 |.cptr cs=>.cptr (cs.take s)
 |a=>a
def xQ(P:Program)(s:TypeId)(f:Nat):Option Field:=match P.underlying s with
 |some (.struct fs)=>fs[f]?
 |_=>none
def jW(P:Program)(t:TypeId)(x:AV)(i:Int):Option AV:=match P.underlying t with
 |some (.slice e)=>match rowsOf x with
  |some es=>if 0≤i then match es[i.toNat]? with
    |some c=>if jS P e=some c.length then some (.cptr c) else none
    |none=>none
   else none
  |none=>none
 |some (.array n e)=>match jS P e with
  |some s=>if 0≤i∧i<n then(WT x (i.toNat*s)).map (agC s) else none
  |none=>none
 |_=>none
def xJ(P:Program)(t:TypeId)(x i:AV):Option AV:=match x with
 |.agg l=>match P.underlying t,rH i with
  |some (.array n e),some k=>match jS P e with
   |some s=>if 0≤k∧k<n then Nk P e l (k.toNat*s) else none
   |none=>none
  |_,_=>none
 |x=>match x.val?,i.val? with
  |some v,some j=>match aP P (Instr.index t v j) with
   |some u=>pu u
   |none=>none
  |_,_=>none
def J3(P:Program)(t:TypeId)(x y:AV):Bool:=match P.underlying t,x,y with
 |some (.pointer _),.ptr _ _,.pv (.lit (.pointer none))=>true
 |some (.pointer _),.cptr _,.pv (.lit (.pointer none))=>true
 |some (.func _ _ _),.fn _ _,.pv (.lit .nilFunc)=>true
 |some (.slice _),.trows _ _,.pv (.lit (.slice none 0 0))=>true
 |some (.slice _),.pv (.rows (_::_)),.pv (.lit (.slice none 0 0))=>true
 |_,_,_=>false
def eqL:List UInt8→List UInt8→Bool
 |[],[]=>true
 |a::l,b::r=>match Nat.beq a.toNat b.toNat with
  |true=>eqL l r
  |false=>false
 |_,_=>false
theorem zH:∀(l r:List UInt8),eqL l r=true↔l=r
 |[],[]=>by simp[eqL]
 |[],_::_=>by simp[eqL]
 |_::_,[]=>by simp[eqL]
 |a::l,b::r=>by
  rw[eqL];cases h:Nat.beq a.toNat b.toNat with
  |true=>
   have e:a=b:=UInt8.toNat_inj.1 (Nat.eq_of_beq_eq_true h);simp only[zH l r,e,List.cons.injEq,true_and]
  |false=>
   have e:a≠b:=fun e=>Nat.ne_of_beq_eq_false h (by rw[e])
   simp[e]
def U3(x y:ByteArray):Bool:=eqL x.data.toList y.data.toList
theorem ak6(x y:ByteArray):(x.toList==y.toList)=U3 x y:=by
 rw[ByteArray.toList_eq,ByteArray.toList_eq];unfold U3;rw[Bool.eq_iff_iff,zH];simp
def aiI(b:BinOp)(u v:AV):Option Bool:=match b,u,v with
 |.eql,.pv (.opq ne _ _),.pv (.lit (.string s))=>if ne.any (U3 s) then some false else none
 |.neq,.pv (.opq ne _ _),.pv (.lit (.string s))=>if ne.any (U3 s) then some true else none
 |.eql,.pv (.lit (.string s)),.pv (.opq ne _ _)=>if ne.any (U3 s) then some false else none
 |.neq,.pv (.lit (.string s)),.pv (.opq ne _ _)=>if ne.any (U3 s) then some true else none
 |.gtr,.pv (.rng lo hi),.pv (.lit (.int .i64 m))=>if m<(lo:Int) then some true else if(hi:Int)≤m then some false else none
 |_,_,_=>none
def OI(b:BinOp)(p q:Value):Option Bool:=match p,q with
 |.string x,.string y=>match b with
  |.eql=>some (U3 x y)
  |.neq=>some (!U3 x y)
  |_=>none
 |_,_=>none
def Cu(P:Program)(b:BinOp)(t:TypeId)(x y:Operand)(u v:AV):Option AV:=match u.val?,v.val? with
 |some p,some q=>match OI b p q with
  |some r=>some (.pv (.lit (.bool r)))
  |none=>match aP P (do eqGuard b t x y p q;binOp b t p q) with
   |some r=>pu r
   |none=>none
 |_,_=>if J3 P t u v then match b with
   |.eql=>some (.pv (.lit (.bool false)))
   |.neq=>some (.pv (.lit (.bool true)))
   |_=>none
  else match aiI b u v with
   |some r=>some (.pv (.lit (.bool r)))
   |none=>none
def iJ(ρ:Operand→Option AV)(d:Nat):Option Operand→Option Nat
 |none=>some d
 |some x=>match ρ x with
  |some v=>match rH v with
   |some n=>if 0≤n then some n.toNat else none
   |none=>none
  |none=>none
def LJ(ρ:Operand→Option AV):Option Operand→Option (Option Value)
 |none=>some none
 |some x=>match ρ x with
  |some v=>v.val?.map some
  |none=>none
def iW(P:Program)(t:TypeId)(ρ:Operand→Option AV)(x:AV)(lo hi mx:Option Operand):Option AV:=match rowsOf x with
 |some es=>match P.underlying t,iJ ρ 0 lo,iJ ρ es.length hi,mx with
  |some (.slice e),some l,some r,none=>match jS P e with
   |some s=>if l≤r∧r≤es.length∧(l=0∨es.head?.map List.length=some s) then some (.pv (.rows ((es.drop l).take (r-l)))) else none
   |none=>none
  |_,_,_,_=>none
 |none=>match x.val?,LJ ρ lo,LJ ρ hi,LJ ρ mx with
  |some v,some l,some r,some m=>match aP P (Instr.sliceAt t v l r m) with
   |some u=>pu u
   |none=>none
  |_,_,_,_=>none
def NM:List AV→Option (List Value)
 |[]=>some []
 |a::l=>match a.val?,NM l with
  |some v,some r=>some (v::r)
  |_,_=>none
def FB(P:Program)(ts:Array TypeId)(x:AV):Option AV:=match x,ts[0]? with
 |.pv (.opq _ lo hi),some t=>match P.underlying t with
  |some .string=>some (.pv (.rng lo hi))
  |_=>none
 |x,some t=>match rowsOf x with
  |some es=>match P.underlying t with
   |some (.slice _)=>some (.pv (.lit (.int .i64 es.length)))
   |_=>none
  |none=>none
 |_,_=>none
def dO(P:Program)(b:Builtin)(ts:Array TypeId)(ty:TypeId)(vs:List AV):Option AV:=match b with
 |.len=>match vs with
  |[x]=>match FB P ts x with
   |some r=>some r
   |none=>match x.val? with
    |some v=>match aP P (Builtin.len_ ts ty #[v]) with
     |some u=>pu u
     |none=>none
    |none=>none
  |_=>none
 |.min=>match NM vs with
  |some us=>match aP P (Builtin.min_ ts ty us.toArray) with
   |some u=>pu u
   |none=>none
  |none=>none
 |.max=>match NM vs with
  |some us=>match aP P (Builtin.max_ ts ty us.toArray) with
   |some u=>pu u
   |none=>none
  |none=>none
 |_=>none
def A7:List (List PV)→Option (List Int)
 |[]=>some []
 |[.lit (.int .u8 n)]::l=>(A7 l).map fun r=>n::r
 |_=>none
def aiN(l:List Int):ByteArray:=l.foldl (fun r n=>r.push (UInt8.ofNat n.toNat)) ByteArray.empty
def II(P:Program)(s d:TypeId)(u:AV):Option AV:=match u.val? with
 |some a=>match aP P (convert s d a) with
  |some r=>pu r
  |none=>none
 |none=>match rowsOf u,P.underlying s,P.underlying d with
  |some es,some (.slice e),some .string=>match P.underlying e,A7 es with
   |some (.int .u8),some ns=>some (.pv (.lit (.string (aiN ns))))
   |_,_=>none
  |_,_,_=>none
def qop(P:Program)(op:Op)(ty:TypeId)(ρ:Operand→Option AV)(h:List ah):Option (AV×Option Nat):=
 match op with
 |.move x=>(ρ x).map fun v=>(v,none)
 |.assign x=>(ρ x).map fun v=>(v,none)
 |.pick c a b=>match ρ c with
  |some (.pv (.lit (.bool t)))=>(if t then ρ a else ρ b).map fun v=>(v,none)
  |_=>none
 |.nilCheck x=>match ρ x with
  |some v=>if v.isThere then some (v,none) else none
  |none=>none
 |.load t x=>match ρ x with
  |some a=>match zL h a with
   |some (l,d)=>(Ip P t l).map fun v=>(v,d)
   |none=>none
  |none=>none
 |.fieldAddr s x f=>match ρ x,xQ P s f with
  |some a,some fl=>match jS P fl.type with
   |some (_+1)=>(WT a fl.offset).map fun v=>(v,none)
   |_=>none
  |_,_=>none
 |.field s x f=>match ρ x,xQ P s f with
  |some (.agg l),some fl=>(Nk P fl.type l fl.offset).map fun v=>(v,none)
  |_,_=>none
 |.indexAddr t x i=>match ρ x,ρ i with
  |some a,some v=>match rH v with
   |some n=>(jW P t a n).map fun v=>(v,none)
   |none=>none
  |_,_=>none
 |.index t x i=>match ρ x,ρ i with
  |some a,some v=>(xJ P t a v).map fun v=>(v,none)
  |_,_=>none
 |.extract x i=>match ρ x with
  |some (.tup l)=>l[i]?.map fun v=>(v,none)
  |_=>none
 |.binOp b t x y _=>match ρ x,ρ y with
  |some u,some v=>(Cu P b t x y u v).map fun v=>(v,none)
  |_,_=>none
 |.unOp u _ x=>match ρ x with
  |some v=>match v.val? with
   |some a=>match aP P (Op.unary u a) with
    |some r=>(pu r).map fun v=>(v,none)
    |none=>none
   |none=>none
  |none=>none
 |.convert s d x=>match ρ x with
  |some v=>(II P s d v).map fun v=>(v,none)
  |none=>none
 |.slice t x lo hi mx=>match ρ x with
  |some a=>(iW P t ρ a lo hi mx).map fun v=>(v,none)
  |none=>none
 |.makeFunc (.func f) first caps=>if first.isEmpty then match lq ρ caps.toList with
   |some l=>match Nat.blt f qO with
    |true=>some (.fn f l,none)
    |false=>none
   |none=>none
  else match lq ρ first.toList,lq ρ caps.toList with
   |some l,some []=>some (.fn (f+qO) l,none)
   |some _,some _=>some (.pv .any,none)
   |_,_=>none
 |.build t parts=>match oZ ρ parts.toList with
  |some ps=>(Lc P t ps).map fun l=>(.agg l,none)
  |none=>none
 |.call ⟨.builtin b,args,ts⟩=>match lq ρ args.toList with
  |some vs=>(dO P b ts ty vs).map fun v=>(v,none)
  |none=>none
 |_=>none
section
variable{P:Program}{o:Oper}{ρ:Operand→Value}{ρA:Operand→Option AV}{K:Kn}{h:List ah}{w:World}
theorem Dv.of{v:AV}{dep:Option Nat}(u:Value)(hu:VR K v u)(hr:∀w':World,(execOp ρ o).run P w'=.ok (.value u) w'):Dv P o ρ K w v dep:=⟨u,hu,fun w' _ _=>hr w'⟩
theorem wQ(H:WR K h w){a:AV}{v:Value}(hv:VR K a v){l:List AV}{d:Option Nat}(hc:zL h a=some (l,d)) :
  ∃g off cs,v=.pointer (some ⟨g,off,none⟩)∧VL K l cs∧∀w':World,(∀g o c,K.M g o=some c→w'.cell? ⟨g,o,none⟩=some c)→(∀i,d=some i→∀g,K.mu i=some g→w'.heap[g]? = w.heap[g]?)→
   ∀j c,cs[j]? = some c→w'.cell? ⟨g,off+j,none⟩=some c:=by
 cases hv with
 |ptr i o g hm=>
  simp only[zL,Pb] at hc;split at hc
  ·rename_i c hb
   cases hc;split at hb
   ·rename_i ty c' hi
    cases hb;obtain⟨g',cs,hm',hw,_,hvl⟩:=H.box i ty c hi;rw[hm] at hm';cases hm';refine⟨g,o,(cs.toList.take c.length).drop o,rfl,hvl.drop o,fun w' _ hd j x hj=>?_⟩;have:=hd i rfl g hm;rw[World.cell?_of_block (w:=w) this];rw[List.getElem?_drop,List.getElem?_take] at hj;split at hj
    ·rw[Array.getElem?_toList] at hj
     simp[World.cell?,hw,hj]
    ·cases hj
   ·cases hb
  ·cases hc
 |cptr cs g o us hcm hr=>
  cases hc;refine⟨g,o,(List.range cs.length).map us,rfl,⟨by simp,fun i hi hi'=>?_⟩,fun w' hM _ j x hj=>?_⟩
  ·simp only[List.getElem_map,List.getElem_range]
   exact .pv (hr i (by simpa using hi))
  ·have hl:j<cs.length:=by
    by_cases hh:j<cs.length
    ·exact hh
    ·rw[List.getElem?_eq_none (by simp;omega)] at hj;cases hj
   rw[List.getElem?_map,List.getElem?_range hl] at hj;cases hj;exact hM _ _ _ (hcm j hl)
 |_=>cases hc
theorem Gn{a b:AV}{v:Value}{n:Nat}(hv:VR K a v)(ha:WT a n=some b):∃g o,v=.pointer (some ⟨g,o,none⟩)∧VR K b (.pointer (some ⟨g,o+n,none⟩)):=by
 cases hv with
 |ptr i o g hm=>cases ha;exact⟨g,o,rfl,.ptr i (o+n) g hm⟩
 |cptr cs g o us hc hr=>
  cases ha;refine⟨g,o,rfl,.cptr (cs.drop n) g (o+n) (fun j=>us (n+j)) (fun j hj=>?_) (fun j hj=>?_)⟩
  ·rw[Nat.add_assoc];exact hc (n+j) (by simp at hj;omega)
  ·rw[List.getElem_drop];exact hr (n+j) (by simp at hj;omega)
 |_=>cases ha
theorem LP{a:AV}{v:Value}{s:Nat}(hv:VR K a v):VR K (agC s a) v:=by
 cases hv with
 |cptr cs g o us hc hr=>
  refine .cptr (cs.take s) g o us (fun j hj=>hc j ?_) (fun j hj=>?_)
  ·rw[List.length_take] at hj;omega
  ·rw[List.getElem_take];exact hr j (by rw[List.length_take] at hj;omega)
 |pv h=>exact .pv h
 |trows t es g us a b c d e=>exact .trows t es g us a b c d e
 |tsym t i es hi h=>exact .tsym t i es hi h
 |ptr i o g a=>exact .ptr i o g a
 |agg l cs hl h=>exact .agg l cs hl h
 |tup l cs hl h=>exact .tup l cs hl h
 |fn f l cs hl h hb=>exact .fn f l cs hl h hb
 |bfn f g l cs hl h hg=>exact .bfn f g l cs hl h hg
 |sl t lo len sz g cap off a b c d f=>exact .sl t lo len sz g cap off a b c d f
 |mp t g a=>exact .mp t g a
 |ifc t a=>exact .ifc t a
 |arr t g c a b d=>exact .arr t g c a b d
 |aptr t i o g k kd a b c=>exact .aptr t i o g k kd a b c
 |arv t i q g k n cap off kd a b c d e f h=>exact .arv t i q g k n cap off kd a b c d e f h
theorem fE{a:AV}{v:Value}{es:List (List PV)}(hv:VR K a v)(h:rowsOf a=some es):PR K.R K.M (.rows es) v:=by
 cases a with
 |pv p=>cases p<;>first
  |(cases h;exact hv.toPV rfl)
  |(rename_i u
    simp only[rowsOf] at h;split at h
    ·rename_i he
     cases h;cases hv with
     |pv hp=>
      cases hp;unfold QY at he;split at he
      ·exact .rows [] _ _ 0 0 0 (fun _ _=>.bool true) (fun h=>absurd rfl h) (Nat.zero_le _) (fun i h=>by cases h) (fun i h=>by cases h) (fun i h=>by cases h)
      ·exact .rows [] _ _ 0 0 0 (fun _ _=>.bool true) (fun h=>absurd rfl h) (Nat.zero_le _) (fun i h=>by cases h) (fun i h=>by cases h) (fun i h=>by cases h)
      ·cases he
    ·cases h)
  |cases h
 |trows t es'=>cases h;exact hv.toPV rfl
 |_=>cases h
theorem gF{a:AV}{v:Value}{n:Int}(hv:VR K a v)(h:rH a=some n):∃k,v=.int k n:=by
 cases hv with
 |pv hp=>cases hp with
  |lit v _=>cases v<;>first|(cases h;exact⟨_,rfl⟩)|cases h
  |_=>cases h
 |_=>cases h
theorem xP{s:TypeId}{f:Nat}{fl:Field}(h:xQ P s f=some fl):∃fs,P.underlying s=some (.struct fs)∧fs[f]? = some fl:=by
 unfold xQ at h;split at h
 ·rename_i fs hu;exact⟨fs,hu,h⟩
 ·cases h
theorem aju{es:List (List PV)}{v:Value}(hv:PR K.R K.M (.rows es) v){i:Nat}{c:List PV}(hi:es[i]? = some c) :
  ∃g off cap,v=.slice (some ⟨g,off,none⟩) es.length cap∧VR K (.cptr c) (.pointer (some ⟨g,off+i*c.length,none⟩)):=by
 cases hv with
 |rows es a cap g off sz us ha hn hsz hc hr=>
  have hl:i<es.length:=by
   by_cases hh:i<es.length
   ·exact hh
   ·rw[List.getElem?_eq_none (by omega)] at hi;cases hi
  rw[List.getElem?_eq_getElem hl] at hi;cases hi;have hne:es≠[]:=by rintro rfl;simp at hl
  rw[ha hne];refine⟨g,off,cap,rfl,.cptr _ g _ (us i) (fun j hj=>?_) (fun j hj=>hr i hl j hj)⟩;rw[hsz i hl] at hj ⊢;exact hc i hl j hj
theorem FI{t:TypeId}{a b:AV}{v iv:Value}{n:Int}(hv:VR K a v)(hi:∃k,iv=.int k n)(hq:jW P t a n=some b) :
  ∃u,VR K b u∧∀w':World,(Instr.indexAt t v iv).run P w'=.ok u w':=by
 obtain⟨k,rfl⟩:=hi;unfold jW at hq;split at hq
 ·rename_i e hu
  split at hq
  ·rename_i es hes
   split at hq
   ·rename_i h0
    split at hq
    ·rename_i c hc
     split at hq
     ·rename_i hs
      cases hq;obtain⟨g,off,cap,rfl,hvr⟩:=aju (fE hv hes) hc;refine⟨_,hvr,fun w'=>?_⟩;have hl:n.toNat<es.length:=by
       by_cases hh:n.toNat<es.length
       ·exact hh
       ·rw[List.getElem?_eq_none (by omega)] at hc;cases hc
      have hlt:n<(es.length:Int):=by omega
      simp[Instr.indexAt,asIntOf,run_underlying hu,h0,hlt,dV hs,Addr.add_lit]
     ·cases hq
    ·cases hq
   ·cases hq
  ·cases hq
 ·rename_i m e hu
  split at hq
  ·rename_i s hs
   split at hq
   ·rename_i hin
    obtain⟨b',hb',rfl⟩:=Option.map_eq_some_iff.1 hq;obtain⟨g,off,rfl,hvr⟩:=Gn hv hb';refine⟨_,LP hvr,fun w'=>?_⟩;simp[Instr.indexAt,asIntOf,run_underlying hu,Instr.sureAddr,hin.1,hin.2,dV hs,Addr.add_lit]
   ·cases hq
  ·cases hq
 ·cases hq
theorem Kj{t:TypeId}{a i b:AV}{v iv:Value}(hv:VR K a v)(hi:VR K i iv)(hq:xJ P t a i=some b) :
  ∃u,VR K b u∧∀w':World,(Instr.index t v iv).run P w'=.ok u w':=by
 unfold xJ at hq;split at hq
 ·rename_i l
  split at hq
  ·rename_i n e k hu hk
   split at hq
   ·rename_i s hs
    split at hq
    ·rename_i hin
     cases hv with
     |agg _ cs hl hh=>
      obtain⟨kk,rfl⟩:=gF hi hk;obtain⟨u,hvu,hr⟩:=BI (P:=P) ⟨hl,hh⟩ hq;refine⟨u,hvu,fun w'=>?_⟩;simp[Instr.index,asIntOf,run_underlying hu,hin.1,hin.2,dV hs,hr w']
    ·cases hq
   ·cases hq
  ·cases hq
 ·split at hq
  ·rename_i x y hx hy
   split at hq
   ·rename_i u hp
    have e1:=bW hv hx;have e2:=bW hi hy;subst e1;subst e2;exact⟨u,fT hq,dF hp⟩
   ·cases hq
  ·cases hq
theorem BN{t:TypeId}{u v:AV}{p q:Value}(hu:VR K u p)(hv:VR K v q)(hn:J3 P t u v=true)(d:Nat)(w':World) :
  (Op.equalIn (d+1) t p q).run P w'=.ok false w'∧(∀b x y,(eqGuard b t x y p q).run P w'=.ok () w')∧(binOp .eql t p q=do pure (.bool (←Op.equal t p q)))∧(binOp .neq t p q=do pure (.bool (!(←Op.equal t p q)))):=by
 unfold J3 at hn;split at hn
 ·rename_i e i o hut
  cases hu;cases hv with
  |pv hp=>
   cases hp;exact⟨by simp[Op.equalIn,run_underlying hut],fun b x y=>by cases b<;>simp[eqGuard],rfl,rfl⟩
 ·rename_i e cs hut
  cases hu;cases hv with
  |pv hp=>
   cases hp;exact⟨by simp[Op.equalIn,run_underlying hut],fun b x y=>by cases b<;>simp[eqGuard],rfl,rfl⟩
 ·rename_i a1 a2 a3 f caps hut
  cases hu
  all_goals
   cases hv with
   |pv hp=>
    cases hp;exact⟨by simp[Op.equalIn,run_underlying hut],fun b x y=>by cases b<;>simp[eqGuard],rfl,rfl⟩
 ·rename_i e tt es hut
  cases hu;cases hv with
  |pv hp=>
   cases hp;exact⟨by simp[Op.equalIn,run_underlying hut],fun b x y=>by cases b<;>simp[eqGuard],rfl,rfl⟩
 ·rename_i e r0 rs hut
  cases hu with
  |pv hp1=>
   cases hp1 with
   |rows _ a cap g off sz us ha _ _ _ _=>
    rw[ha (by simp)];cases hv with
    |pv hp=>
     cases hp;exact⟨by simp[Op.equalIn,run_underlying hut],fun b x y=>by cases b<;>simp[eqGuard],rfl,rfl⟩
 ·cases hn
theorem OL(t:TypeId)(p q:Value):Op.equal t p q=Op.equalIn (9999+1) t p q:=rfl
theorem JS{ne:List ByteArray}{s y:ByteArray}(hne:∀x,x∈ne→s.data.toList≠x.data.toList)(h:ne.any (U3 y)=true):s.toList≠y.toList:=by
 rw[List.any_eq_true] at h;obtain⟨x,hx,he⟩:=h;have:=(zH _ _).1 he;rw[ByteArray.toList_eq,ByteArray.toList_eq,this];exact hne x hx
theorem OH{b:BinOp}{t:TypeId}{x y:Operand}{p q:Value}{r:Bool}(hq:OI b p q=some r)(w':World):(do eqGuard b t x y p q;binOp b t p q:Sem Value).run P w'=.ok (.bool r) w':=by
 unfold OI at hq;split at hq
 ·rename_i s s'
  have h1:=ak6 s s';split at hq
  ·cases hq
   simp only[Sem.run_bind,binOp,Op.stringOp,h1];simp[eqGuard]
  ·cases hq
   simp only[Sem.run_bind,binOp,Op.stringOp,h1];simp[eqGuard]
  ·cases hq
 ·cases hq
theorem P5{b:BinOp}{t:TypeId}{x y:Operand}{u v:AV}{p q:Value}{r:Bool}(hu:VR K u p)(hv:VR K v q)(hq:aiI b u v=some r)(w':World) :
  (do eqGuard b t x y p q;binOp b t p q:Sem Value).run P w'=.ok (.bool r) w':=by
 unfold aiI at hq;split at hq
 ·split at hq
  ·rename_i he
   cases hq;cases hu with
   |pv hp=>
    cases hp with
    |opq ne lo hi s hne _ _=>
     have e:=bW hv rfl;subst e;have h1:=JS hne he;simp[eqGuard,binOp,Op.stringOp,h1]
  ·cases hq
 ·split at hq
  ·rename_i he
   cases hq;cases hu with
   |pv hp=>
    cases hp with
    |opq ne lo hi s hne _ _=>
     have e:=bW hv rfl;subst e;have h1:=JS hne he;simp[eqGuard,binOp,Op.stringOp,h1]
  ·cases hq
 ·split at hq
  ·rename_i he
   cases hq;cases hv with
   |pv hp=>
    cases hp with
    |opq ne lo hi s hne _ _=>
     have e:=bW hu rfl;subst e;have h1:=JS hne he;simp[eqGuard,binOp,Op.stringOp,Ne.symm h1]
  ·cases hq
 ·split at hq
  ·rename_i he
   cases hq;cases hv with
   |pv hp=>
    cases hp with
    |opq ne lo hi s hne _ _=>
     have e:=bW hu rfl;subst e;have h1:=JS hne he;simp[eqGuard,binOp,Op.stringOp,Ne.symm h1]
  ·cases hq
 ·cases hu with
  |pv hp=>
   cases hp with
   |rng lo hi n hlo hhi=>
    have e:=bW hv rfl;subst e;split at hq
    ·cases hq
     have:decide (_<n)=true:=decide_eq_true (Int.lt_of_lt_of_le ‹_› hlo);simp[eqGuard,binOp,Op.intCmp];omega
    ·split at hq
     ·cases hq
      simp[eqGuard,binOp,Op.intCmp];omega
     ·cases hq
 ·cases hq
theorem Rp{b:BinOp}{t:TypeId}{x y:Operand}{u v r:AV}{p q:Value}(hu:VR K u p)(hv:VR K v q)(hq:Cu P b t x y u v=some r) :
  ∃z,VR K r z∧∀w':World,(do eqGuard b t x y p q;binOp b t p q:Sem Value).run P w'=.ok z w':=by
 unfold Cu at hq;split at hq
 ·rename_i a c ha hc
  have e1:=bW hu ha;have e2:=bW hv hc;subst e1;subst e2;split at hq
  ·rename_i r hr
   cases hq;exact⟨_,.pv (.lit _ rfl),OH hr⟩
  ·split at hq
   ·rename_i z hz
    exact⟨z,fT hq,dF hz⟩
   ·cases hq
 ·split at hq
  ·rename_i hn
   split at hq
   ·cases hq
    refine⟨.bool false,.pv (.lit _ rfl),fun w'=>?_⟩;obtain⟨h1,h2,h3,h4⟩:=BN hu hv hn 9999 w';rw[←OL] at h1;rw[h3];simp only[Sem.run_bind,h2,Result.andThen_ok,h1,Sem.run_pure]
   ·cases hq
    refine⟨.bool true,.pv (.lit _ rfl),fun w'=>?_⟩;obtain⟨h1,h2,h3,h4⟩:=BN hu hv hn 9999 w';rw[←OL] at h1;rw[h4];simp only[Sem.run_bind,h2,Result.andThen_ok,h1,Sem.run_pure,Bool.not_false]
   ·cases hq
  ·split at hq
   ·rename_i r hr
    cases hq;exact⟨_,.pv (.lit _ rfl),P5 hu hv hr⟩
   ·cases hq
end
end Go.Proofs.YtfphhabaeggenaaGreatDoor
namespace Go.Proofs.YtfphhabaeggenaaGreatDoor
open Go.RowKit
section
variable{P:Program}{o:Oper}{ρ:Operand→Value}{ρA:Operand→Option AV}{K:Kn}{h:List ah}{w:World}
theorem gu(hρ:∀x v,ρA x=some v→VR K v (ρ x)){d:Nat}{x:Option Operand}{n:Nat}(hb:iJ ρA d x=some n) :
  (x=none∧n=d)∨∃y k,x=some y∧ρ y=.int k (n:Int):=by
 unfold iJ at hb;split at hb
 ·cases hb;exact .inl ⟨rfl,rfl⟩
 ·rename_i y
  split at hb
  ·rename_i v hv
   split at hb
   ·rename_i m hm
    split at hb
    ·rename_i h0
     cases hb;obtain⟨k,hk⟩:=gF (hρ y v hv) hm;exact .inr ⟨y,k,rfl,by rw[hk];congr 1;omega⟩
    ·cases hb
   ·cases hb
  ·cases hb
theorem um(hρ:∀x v,ρA x=some v→VR K v (ρ x)){x:Option Operand}{r:Option Value}(hb:LJ ρA x=some r):x.map ρ=r:=by
 unfold LJ at hb;split at hb
 ·cases hb;rfl
 ·rename_i y
  split at hb
  ·rename_i v hv
   cases hq:v.val? with
   |none=>rw[hq] at hb;cases hb
   |some u=>
    rw[hq] at hb;cases hb;rw[Option.map_some,bW (hρ y v hv) hq]
  ·cases hb
theorem run_sliceBound(w':World)(k:IntKind)(n y:Nat)(c:BoundsCode)(h:n≤y):(Instr.sliceBound (.int k (n:Int)) y c).run P w'=.ok n w':=by
 have:((n:Int)≤(y:Int)):=by omega
 simp[Instr.sliceBound,asIntOf,this]
theorem acI{es:List (List PV)}{a:Option Addr}{len cap l r s:Nat}(hv:PR K.R K.M (.rows es) (.slice a len cap))(hlr:l≤r)(hr:r≤es.length)(hs:l=0∨es.head?.map List.length=some s) :
  PR K.R K.M (.rows ((es.drop l).take (r-l))) (.slice (if cap=l then a else a.map (·.add (l*s))) (r-l) (cap-l)):=by
 cases hv with
 |rows es a cap g off sz us ha hn hsz hc hr'=>
  have hlen:((es.drop l).take (r-l)).length=r-l:=by simp;omega
  have hss:l=0∨(es≠[]→s=sz):=by
   rcases hs with hs|hs
   ·exact .inl hs
   ·right
    intro hne;cases es with
    |nil=>exact absurd rfl hne
    |cons e es=>
     have:=hsz 0 (by simp);simp at hs this;omega
  have key:=PR.rows (R:=K.R) (M:=K.M) ((es.drop l).take (r-l)) (if cap=l then a else a.map (·.add (l*s))) (cap-l) g (off+l*sz) sz (fun i j=>us (l+i) j)
   (fun hne=>by
    have hpos:0<r-l:=by rw[←hlen];exact List.length_pos_iff.2 hne
    have hes:es≠[]:=by rintro rfl;simp at hr;omega
    rw[if_neg (by omega),ha hes];rcases hss with h0|hss
    ·subst h0;simp[Addr.add_lit]
    ·rw[hss hes];simp[Addr.add_lit])
   (by rw[hlen];omega)
   (fun i hi=>by rw[List.getElem_take,List.getElem_drop];exact hsz _ _)
   (fun i hi j hj=>by
    rw[hlen] at hi;have:=hc (l+i) (by omega) j hj;rw[Nat.add_mul] at this
    rwa [show off+l*sz+i*sz+j=off+(l*sz+i*sz)+j by omega])
   (fun i hi j hj=>by
    rw[hlen] at hi;have:=hr' (l+i) (by omega) j (by rw[List.getElem_take,List.getElem_drop] at hj;exact hj);simpa[List.getElem_take,List.getElem_drop] using this)
  rw[hlen] at key;exact key
theorem Jo(hρ:∀x v,ρA x=some v→VR K v (ρ x)){t:TypeId}{a b:AV}{v:Value}{lo hi mx:Option Operand}(hv:VR K a v)(hq:iW P t ρA a lo hi mx=some b) :
  ∃u,VR K b u∧∀w':World,(Instr.sliceAt t v (lo.map ρ) (hi.map ρ) (mx.map ρ)).run P w'=.ok u w':=by
 unfold iW at hq;split at hq
 ·rename_i es hes
  split at hq
  ·rename_i e l r hu hl hr
   split at hq
   ·rename_i s hs
    split at hq
    ·rename_i hc
     cases hq;have hp:=fE hv hes;obtain⟨ad,cap,rfl,hcap⟩:∃ad cap,v=.slice ad es.length cap∧es.length≤cap:=by
      cases hp with
      |rows _ a cap g off sz us ha hn _ _ _=>exact⟨a,cap,rfl,hn⟩
     refine⟨_,.pv (acI hp hc.1 hc.2.1 hc.2.2),fun w'=>?_⟩;have hB:(Instr.sliceBounds true es.length cap (lo.map ρ) (hi.map ρ) none).run P w'=.ok (l,r,cap) w':=by
      have h1:∀k c,(Instr.sliceBound (.int k (r:Int)) cap c).run P w'=.ok r w':=fun k c=>run_sliceBound w' k r cap c (by omega)
      have h2:∀k c,(Instr.sliceBound (.int k (l:Int)) r c).run P w'=.ok l w':=fun k c=>run_sliceBound w' k l r c hc.1
      rcases gu hρ hr with⟨rfl,rfl⟩|⟨y,k,rfl,hy⟩
      ·rcases gu hρ hl with⟨rfl,rfl⟩|⟨z,k',rfl,hz⟩
       ·simp[Instr.sliceBounds]
       ·simp[Instr.sliceBounds,hz,h2]
      ·rcases gu hρ hl with⟨rfl,rfl⟩|⟨z,k',rfl,hz⟩
       ·simp[Instr.sliceBounds,hy,h1]
       ·simp[Instr.sliceBounds,hy,hz,h1,h2]
     simp[Instr.sliceAt,Instr.slice,run_underlying hu,hB,dV hs]
    ·cases hq
   ·cases hq
  ·cases hq
 ·split at hq
  ·rename_i x l r m hx hl hr hm
   split at hq
   ·rename_i u hp
    have e:=bW hv hx;subst e;rw[um hρ hl,um hρ hr,um hρ hm];exact⟨u,fT hq,dF hp⟩
   ·cases hq
  ·cases hq
theorem Fz:∀{l:List AV} {cs us:List Value},VL K l cs→NM l=some us→cs=us
 |[],cs,us,h,hu=>by
  cases hu;exact List.eq_nil_of_length_eq_zero h.1.symm
 |a::l,[],us,h,_=>by have:=h.1;simp at this
 |a::l,c::cs,us,h,hu=>by
  rw[NM] at hu;split at hu
  ·rename_i v vs h1 h2
   cases hu;have e1:=bW (h.2 0 (by simp) (by simp)) h1;have e2:=Fz (cs:=cs) ⟨by simpa using h.1,fun i hi hi'=>h.2 (i+1) (by simpa using hi) (by simpa using hi')⟩ h2;simp only[List.getElem_cons_zero] at e1;rw[e1,e2]
  ·cases hu
theorem Gd{b:Builtin}{ts:Array TypeId}{ty:TypeId}{vs:List AV}{us:List Value}{r:AV}(hv:VL K vs us)(hq:dO P b ts ty vs=some r)(cs:Array Bool) :
  ∃u,VR K r u∧∀w':World,(builtin b ts ty cs us.toArray).run P w'=.ok (.value u) w':=by
 unfold dO at hq;split at hq
 ·split at hq
  ·rename_i x
   obtain⟨c,rfl,hx⟩:∃c,us=[c]∧VR K x c:=by
    match us,hv with
    |[],hv=>have:=hv.1;simp at this
    |[c],hv=>exact⟨c,rfl,hv.2 0 (by simp) (by simp)⟩
    |_::_::_,hv=>have:=hv.1;simp at this
   split at hq
   ·rename_i r' hr
    cases hq;unfold FB at hr;split at hr
    ·rename_i ne lo hi t ht
     split at hr
     ·rename_i hu
      cases hr;cases hx with
      |pv hp=>
       cases hp with
       |opq _ _ _ s _ hlo hhi=>
        refine⟨_,.pv (.rng lo hi s.size (by omega) (by omega)),fun w'=>?_⟩;simp[builtin,Builtin.len_,ht,run_underlying hu,goInt]
     ·cases hr
    ·rename_i t _ ht
     split at hr
     ·rename_i es hes
      split at hr
      ·rename_i e hu
       cases hr;have hp:=fE hx hes;obtain⟨ad,cap,rfl⟩:∃ad cap,c=.slice ad es.length cap:=by
        cases hp with
        |rows _ a cap g off sz us ha hn _ _ _=>exact⟨a,cap,rfl⟩
       refine⟨_,.pv (.lit _ rfl),fun w'=>?_⟩;simp[builtin,Builtin.len_,ht,run_underlying hu,goInt]
      ·cases hr
     ·cases hr
    ·cases hr
   ·split at hq
    ·rename_i v hv'
     split at hq
     ·rename_i u hp
      have e:=bW hx hv';subst e;refine⟨u,fT hq,fun w'=>?_⟩;have:=dF hp w';simp[builtin,this]
     ·cases hq
    ·cases hq
  ·cases hq
 ·split at hq
  ·rename_i l hl
   split at hq
   ·rename_i u hp
    rw[Fz hv hl];refine⟨u,fT hq,fun w'=>?_⟩;have:=dF hp w';simp[builtin,this]
   ·cases hq
  ·cases hq
 ·split at hq
  ·rename_i l hl
   split at hq
   ·rename_i u hp
    rw[Fz hv hl];refine⟨u,fT hq,fun w'=>?_⟩;have:=dF hp w';simp[builtin,this]
   ·cases hq
  ·cases hq
 ·cases hq
theorem NT{v:AV}{u:Value}(hv:VR K v u)(ht:v.isThere=true)(x:Operand)(hx:ρ x=u)(ho:o.op=.nilCheck x)(w':World):(execOp ρ o).run P w'=.ok (.value u) w':=by
 cases hv with
 |ptr=>simp[execOp,ho,hx]
 |cptr=>simp[execOp,ho,hx]
 |fn=>simp[execOp,ho,hx]
 |bfn=>simp[execOp,ho,hx]
 |_=>cases ht
theorem au{α β:Type}{f:α→β}{x:Option α}{y:β}(h:x.map f=some y):∃a,x=some a∧f a=y:=by
 cases x with
 |none=>cases h
 |some a=>exact⟨a,rfl,by simpa using h⟩
end
section
variable{P:Program}{o:Oper}{ρ:Operand→Value}{ρA:Operand→Option AV}{K:Kn}{h:List ah}{w:World}
theorem qA{α β:Type}(f:α→β)(a:Array α):a.map f=(a.toList.map f).toArray:=by
 rw[←Array.toList_map,Array.toArray_toList]
theorem BZ:∀{es:List (List PV)} {ns:List Int},A7 es=some ns→es=ns.map fun n=>[.lit (.int .u8 n)]
 |[],ns,h=>by cases h;rfl
 |[]::es,ns,h=>by simp[A7] at h
 |(p::q::r)::es,ns,h=>by
  simp[A7] at h
 |[p]::es,ns,h=>by
  unfold A7 at h;split at h
  ·rename_i heq;cases heq
  ·rename_i n l heq
   cases heq;obtain⟨r,hr,e⟩:=au h;subst e;rw[BZ hr];rfl
  ·cases h
theorem O3{s d:TypeId}{a b:AV}{x:Value}(hv:VR K a x)(h:II P s d a=some b) :
  ∃u,VR K b u∧∀w':World,(∀g o c,K.M g o=some c→w'.cell? ⟨g,o,none⟩=some c)→(convert s d x).run P w'=.ok u w':=by
 unfold II at h;split at h
 ·rename_i a' ha
  split at h
  ·rename_i z hz
   have hx:=bW hv ha;exact⟨z,fT h,fun w' _=>by rw[hx];exact dF hz w'⟩
  ·cases h
 ·split at h
  ·rename_i es e he hs hd
   split at h
   ·rename_i ns hb hn
    cases h;have hp:=fE hv he;have hes:=BZ hn;refine⟨.string (aiN ns),.pv (.lit _ rfl),fun w' hM=>?_⟩;cases hp with
    |rows _ a cap g off sz us ha hlen hsz hc hr=>
     rw[run_convert_bytes_string w' s d e a _ _ hs hb hd];have hl:es.length=ns.length:=by rw[hes];simp
     cases hns:ns with
     |nil=>
      rw[hns] at hl;rw[hl];cases a with
      |none=>simp[Conv.bytesToString,aiN,Sem.run_pure]
      |some a=>exact run_bytesToString w' a 0 cap [] (by simp[loadCells,loadCellsFrom,Sem.run_pure])
     |cons n0 nr=>
      have hne:es≠[]:=by rintro rfl;rw[hns] at hl;simp at hl
      rw[ha hne,←hns];have h1:sz=1:=by
       have:=hsz 0 (by rw[hl,hns];simp);rw[←this];simp[hes]
      subst h1;refine run_bytesToString w' _ _ cap ns ?_;have hcells:∀j v,(ns.map (Value.int .u8))[j]? = some v→w'.cell? (Addr.add ⟨g,off,none⟩ j)=some v:=by
       intro j v hj;have hj':j<ns.length:=by
        by_cases hh:j<ns.length
        ·exact hh
        ·rw[List.getElem?_eq_none (by simp;omega)] at hj;cases hj
       have hje:j<es.length:=by omega
       have hjc:0<es[j].length:=by rw[hsz j hje];exact Nat.one_pos
       have h1:=hr j hje 0 hjc;have h2:es[j][0]=.lit (.int .u8 ns[j]):=by simp[hes]
       rw[h2] at h1;have h3:us j 0=.int .u8 ns[j]:=by
        generalize us j 0=z at h1;cases h1;rfl
       rw[List.getElem?_map,List.getElem?_eq_getElem hj'] at hj;cases hj;rw[Addr.add_lit,←h3];exact hM _ _ _ (by have:=hc j hje 0 Nat.one_pos;simpa using this)
      have:=run_loadCells_list (P:=P) w' ⟨g,off,none⟩ (ns.map (Value.int .u8)) hcells;rw[List.length_map,←hl] at this;exact this
   ·cases h
  ·cases h
theorem Ib(H:WR K h w)(hρ:∀x v,ρA x=some v→VR K v (ρ x)){v:AV}{dep:Option Nat}(hq:qop P o.op o.type ρA h=some (v,dep)):Dv P o ρ K w v dep:=by
 unfold qop at hq;split at hq
 ·rename_i x ho
  obtain⟨a,ha,e⟩:=au hq;cases e;exact .of (ρ x) (hρ x _ ha) (fun w'=>by simp[execOp,ho])
 ·rename_i x ho
  obtain⟨a,ha,e⟩:=au hq;cases e;exact .of (ρ x) (hρ x _ ha) (fun w'=>by simp[execOp,ho])
 ·rename_i c a b ho
  split at hq
  ·rename_i t hc
   obtain⟨r,hr,e⟩:=au hq;cases e;have hcv:ρ c=.bool t:=bW (hρ c _ hc) rfl;cases t
   ·exact .of (ρ b) (hρ b _ hr) (fun w'=>by simp[execOp,ho,hcv,asBool])
   ·exact .of (ρ a) (hρ a _ hr) (fun w'=>by simp[execOp,ho,hcv,asBool])
  ·cases hq
 ·rename_i x ho
  split at hq
  ·rename_i r hr
   split at hq
   ·rename_i ht
    cases hq;exact .of (ρ x) (hρ x _ hr) (fun w'=>NT (hρ x _ hr) ht x rfl ho w')
   ·cases hq
  ·cases hq
 ·rename_i t x ho
  split at hq
  ·rename_i a ha
   split at hq
   ·rename_i l d hc
    obtain⟨r,hr,e⟩:=au hq;cases e;obtain⟨g,off,cs,hx,hvl,hcell⟩:=wQ H (hρ x _ ha) hc;obtain⟨u,hvu,hrun⟩:=uQ hvl hr g off;refine⟨u,hvu,fun w' hM hd=>?_⟩;have:=hrun w' (hcell w' hM hd);simp[execOp,ho,Instr.loadAt,Instr.sureAddr,hx,this]
   ·cases hq
  ·cases hq
 ·rename_i s x f ho
  split at hq
  ·rename_i a fl ha hf
   split at hq
   ·rename_i n hn
    obtain⟨r,hr,e⟩:=au hq;cases e;obtain⟨fs,hu,hfs⟩:=xP hf;obtain⟨g,off,hx,hvr⟩:=Gn (hρ x _ ha) hr;refine .of _ hvr (fun w'=>?_);simp[execOp,ho,Instr.fieldAt,run_underlying hu,hfs,Instr.sureAddr,hx,fieldPlace,dV hn,Addr.add_lit]
   ·cases hq
  ·cases hq
 ·rename_i s x f ho
  split at hq
  ·rename_i l fl hl hf
   obtain⟨r,hr,e⟩:=au hq;cases e;obtain⟨fs,hu,hfs⟩:=xP hf;have hx:=hρ x _ hl;generalize hxe:ρ x=xv at hx;cases hx with
   |agg _ cs hlen hh=>
    obtain⟨u,hvu,hrun⟩:=BI (P:=P) ⟨hlen,hh⟩ hr;refine .of u hvu (fun w'=>?_);simp[execOp,ho,Instr.field,run_underlying hu,hfs,asAgg,hxe,hrun w']
  ·cases hq
 ·rename_i t x i ho
  split at hq
  ·rename_i a b ha hb
   split at hq
   ·rename_i n hn
    obtain⟨r,hr,e⟩:=au hq;cases e;obtain⟨u,hvu,hrun⟩:=FI (P:=P) (hρ x _ ha) (gF (hρ i _ hb) hn) hr;exact .of u hvu (fun w'=>by simp[execOp,ho,hrun w'])
   ·cases hq
  ·cases hq
 ·rename_i t x i ho
  split at hq
  ·rename_i a b ha hb
   obtain⟨r,hr,e⟩:=au hq;cases e;obtain⟨u,hvu,hrun⟩:=Kj (P:=P) (hρ x _ ha) (hρ i _ hb) hr;exact .of u hvu (fun w'=>by simp[execOp,ho,hrun w'])
  ·cases hq
 ·rename_i x i ho
  split at hq
  ·rename_i l hl
   obtain⟨r,hr,e⟩:=au hq;cases e;have hx:=hρ x _ hl;generalize hxe:ρ x=xv at hx;cases hx with
   |tup _ cs hlen hh=>
    obtain⟨c,hc,hvc⟩:=VL.at_ (K:=K) (cs:=cs) ⟨hlen,hh⟩ hr;refine .of c hvc (fun w'=>?_);simp[execOp,ho,Instr.extract,hxe,hc]
  ·cases hq
 ·rename_i b t x y yt ho
  split at hq
  ·rename_i u1 v1 hu hv
   obtain⟨r,hr,e⟩:=au hq;cases e;obtain⟨z,hvz,hrun⟩:=Rp (P:=P) (hρ x _ hu) (hρ y _ hv) hr;refine .of z hvz (fun w'=>?_);simp only[execOp,ho];rw[Sem.run_bind,hrun w'];rfl
  ·cases hq
 ·rename_i u1 t x ho
  split at hq
  ·rename_i r hr
   split at hq
   ·rename_i a ha
    split at hq
    ·rename_i z hz
     obtain⟨r2,hr2,e⟩:=au hq;cases e;have hx:=bW (hρ x _ hr) ha;refine .of z (fT hr2) (fun w'=>?_);simp[execOp,ho,hx,dF hz w']
    ·cases hq
   ·cases hq
  ·cases hq
 ·rename_i s d x ho
  split at hq
  ·rename_i r hr
   obtain⟨r2,hr2,e⟩:=au hq;cases e;obtain⟨u,hu,hrun⟩:=O3 (P:=P) (hρ x _ hr) hr2;refine⟨u,hu,fun w' hM _=>?_⟩;simp[execOp,ho,hrun w' hM]
  ·cases hq
 ·rename_i t x lo hi mx ho
  split at hq
  ·rename_i a ha
   obtain⟨r,hr,e⟩:=au hq;cases e;obtain⟨u,hvu,hrun⟩:=Jo (P:=P) hρ (hρ x _ ha) hr;exact .of u hvu (fun w'=>by simp[execOp,ho,hrun w'])
  ·cases hq
 ·rename_i f first caps ho
  split at hq
  ·rename_i hf
   split at hq
   ·rename_i l hl
    split at hq
    ·rename_i hb
     cases hq;have hv:=ig hρ _ _ hl;have he:first = #[]:=by simpa using hf
     subst he;refine .of (.func (.func f) #[] (caps.toList.map ρ).toArray) (.fn f l _ hv.1 hv.2 (Nat.le_of_ble_eq_true hb)) (fun w'=>?_);simp[execOp,ho,Instr.makeFunc,qA ρ caps]
    ·cases hq
   ·cases hq
  ·split at hq
   ·rename_i l hl hc
    cases hq;have hv:=ig hρ _ _ hl;have hcv:=ig hρ _ _ hc;have hce:caps.toList.map ρ=[]:=List.eq_nil_of_length_eq_zero hcv.1.symm;refine .of (.func (.func f) (first.toList.map ρ).toArray (caps.toList.map ρ).toArray) (by rw[hce];exact .bfn f _ l _ hv.1 hv.2 rfl) (fun w'=>by simp[execOp,ho,Instr.makeFunc,qA ρ caps,qA ρ first])
   ·cases hq
    exact .of (.func (.func f) (first.toList.map ρ).toArray (caps.toList.map ρ).toArray) (.pv (.any _ rfl)) (fun w'=>by simp[execOp,ho,Instr.makeFunc,qA ρ caps,qA ρ first])
   ·cases hq
 ·rename_i t parts ho
  split at hq
  ·rename_i ps hps
   obtain⟨r,hr,e⟩:=au hq;cases e;obtain⟨h1,h2⟩:=lm hρ _ _ hps;obtain⟨us,hb,hv⟩:=Lb h1 h2 hr;have he:us=us.toList.toArray:=by simp
   refine .of (.agg us) (by rw[he];exact .agg _ _ hv.1 hv.2) (fun w'=>?_);have hp:(parts.map fun(i,x)=>(i,ρ x)).toList=gm ρ parts.toList:=by simp[gm]
   have:=run_build (P:=P) w' t (parts.map fun(i,x)=>(i,ρ x)) us (by rw[hp];exact hb);simp only[execOp,ho,Sem.run_bind,this,Result.andThen_ok,Sem.run_pure]
  ·cases hq
 ·rename_i b args ts ho
  split at hq
  ·rename_i vs hvs
   obtain⟨r,hr,e⟩:=au hq;cases e;have hv:=ig hρ _ _ hvs;obtain⟨u,hvu,hrun⟩:=Gd (P:=P) hv hr (args.map fun | .const _=>true|_=>false);refine .of u hvu (fun w'=>?_);have hm:args.map ρ=(args.toList.map ρ).toArray:=qA ρ args;simp only[execOp,ho,resolve,invoke,Sem.run_bind,Sem.run_pure,Result.andThen_ok,hm];exact hrun w'
  ·cases hq
 ·cases hq
end
end Go.Proofs.YtfphhabaeggenaaGreatDoor
namespace Go.Proofs.YtfphhabaeggenaaGreatDoor
open Go.RowKit
def Bt:List AV→Option (List PV)
 |[]=>some []
 |a::l=>match a.toPV,Bt l with
  |some p,some r=>some (p::r)
  |_,_=>none
def chunk(sz:Nat):Nat→List PV→List (List PV)
 |0,_=>[]
 |n+1,l=>l.take sz::chunk sz n (l.drop sz)
def fD(zc:List AV)(n:Nat):List AV:=(List.range n).map fun i=>zc.getD (i%zc.length) (.tup [])
def Rl(P:Program)(t:TypeId)(len:Nat)(ps:List (Nat×AV)):Option (TypeId×Nat×List PV):=match P.underlying t with
 |some (.slice e)=>match jw P e,jS P e with
  |some zc,some s=>if 0<s∧zc.length=s∧len*s≤16777216 then match rM (fun i=>some (i*s,s)) (fD zc (len*s)) ps with
    |some out=>match Bt out with
     |some pvs=>some (e,s,pvs)
     |none=>none
    |none=>none
   else none
  |_,_=>none
 |_=>none
def bn:AV→Bool
 |.pv (.lit (.slice none 0 0))=>true
 |_=>false
def gT(P:Program)(t:TypeId):Option Nat:=(P.info? t).map (·.bytes)
def tF(dlf enc:Nat→Nat)(P:Program)(t:TypeId)(s:AV)(es':List (List PV))(h:List ah):Option (AV×List ah×List Nat):=match P.underlying t with
 |some (.slice e)=>match jS P e,gT P e,jw P e with
  |some sz,some by_,some zc=>match es' with
   |[]=>if bn s||(rowsOf s).isSome then some (s,h,[]) else none
   |_::_=>if 0<sz∧zc.length=sz∧es'.all (fun c=>c.length==sz) then match s with
     |.trows tk es=>match h[tk]? with
      |some (.tok ty sz' len)=>if ty=e∧sz'=sz∧es.length=dlf len∧dlf len+es'.length≤1000000000000∧(dlf len+es'.length)*by_≤140737488355328 then
        some (.trows h.length (es++es'),h.set tk .dead++[.tok e sz (enc (dlf len+es'.length))],[tk]) else none
      |_=>none
     |s=>if bn s∧es'.length≤1000000000000∧es'.length*by_≤140737488355328 then some (.trows h.length es',h++[.tok e sz (enc es'.length)],[]) else none
    else none
  |_,_,_=>none
 |_=>none
def zS(P:Program)(t:TypeId)(s:AV)(es':List (List PV))(h:List ah):Option (AV×List ah×List Nat):=tF id id P t s es' h
def eop(P:Program)(op:Op)(ρ:Operand→Option AV)(h:List ah):Option (AV×List ah×List Nat):=match op with
 |.alloc t=>match jw P t with
  |some l=>some (.ptr h.length 0,h++[.box t l],[])
  |none=>none
 |.box t x=>match ρ x with
  |some v=>some (.ptr h.length 0,h++[.box t v.cells],[])
  |none=>none
 |.buildSlice t len parts=>match oZ ρ parts.toList with
  |some ps=>match Rl P t len ps with
   |some (e,s,pvs)=>some (.trows h.length (chunk s len pvs),h++[.tok e s len],[])
   |none=>none
  |none=>none
 |.store t x y=>match ρ x,ρ y with
  |some (.ptr i o),some v=>match h[i]? with
   |some (.box bt cells)=>if jS P t=some v.cells.length∧o+v.cells.length≤cells.length∧v.cells.all AV.isCell=true then some (.tup [],h.set i (.box bt (setAt cells o v.cells)),[i]) else none
   |_=>none
  |_,_=>none
 |.call ⟨.builtin .append,args,ts⟩=>match lq ρ args.toList,ts.toList with
  |some [s,x],[t,t']=>if t=t' then match rowsOf x with
    |some es'=>zS P t s es' h
    |none=>if bn x then zS P t s [] h else none
   else none
  |_,_=>none
 |_=>none
def Eff(P:Program)(o:Oper)(ρ:Operand→Value)(K:Kn)(h:List ah)(w:World)(v:AV)(h':List ah)(touch:List Nat):Prop:=
 ∃n u w' K',(execOp ρ o).run P w=.ok n w'∧(n=.value u∨(n=.skip∧u=Go.undef))∧VR K' v u∧Step K h w K' h' w'∧jv (K.at h touch) w w'
section
variable{P:Program}{o:Oper}{ρ:Operand→Value}{ρA:Operand→Option AV}{K:Kn}{h:List ah}{w:World}
theorem jv.alloc(S:Nat→Prop)(w:World)(o:Obj):jv S w (w.alloc o):=⟨rfl,rfl,rfl,by simp,fun k hk _=>Below.heap_alloc w o k hk⟩
theorem jv.drewAlloc(S:Nat→Prop)(w:World)(o:Obj):jv S w (w.drew.alloc o):=⟨rfl,rfl,rfl,by simp,fun k hk _=>Below.heap_alloc w.drew o k hk⟩
theorem gB(K:Kn)(i g z e:Nat):(K.withBox i g z e).mu i=some g:=by show (if i=i then some g else K.mu i)=some g;rw[if_pos rfl]
theorem PN(K:Kn)(i g n sz cap:Nat)(cur:Array Value):(K.withTok i g n sz cap cur).mu i=some g:=by show (if i=i then some g else K.mu i)=some g;rw[if_pos rfl]
theorem Pk(H:WR K h w){t:TypeId}{l:List AV}(ho:o.op=.alloc t)(hz:jw P t=some l):Eff P o ρ K h w (.ptr h.length 0) (h++[.box t l]) []:=by
 obtain⟨i,z,hi,hiz,hv⟩:=bL (K:=K) hz;refine⟨.value (.pointer (some ⟨w.heap.size,0,none⟩)),_,w.alloc (.cells z.cells t),_,?_,.inl rfl,.ptr _ _ _ (gB _ _ _ _ _),Step.allocBox H t l z.cells hv,jv.alloc _ _ _⟩;simp[execOp,ho,Instr.alloc,zeroValue,typeInfo,hi,hiz,newVar,newRow]
theorem WJ(H:WR K h w)(hρ:∀x v,ρA x=some v→VR K v (ρ x)){t:TypeId}{x:Operand}{v:AV}(ho:o.op=.box t x)(hx:ρA x=some v):Eff P o ρ K h w (.ptr h.length 0) (h++[.box t v.cells]) []:=by
 refine⟨.value (.pointer (some ⟨w.heap.size,0,none⟩)),_,w.alloc (.cells (ρ x).cells t),_,?_,.inl rfl,.ptr _ _ _ (gB _ _ _ _ _),Step.allocBox H t v.cells (ρ x).cells (hρ x v hx).cells,jv.alloc _ _ _⟩;simp[execOp,ho,Instr.box,newVar,newRow]
theorem zU{l:List AV}{cs:List Value}(hv:VL K l cs)(h:l.all AV.isCell=true):∀u∈cs,u.oneCell'=true:=by
 intro u hu;obtain⟨i,hi,rfl⟩:=List.getElem_of_mem hu;rw[List.all_eq_true] at h;have hl:i<l.length:=by rw[hv.1];exact hi
 exact(hv.2 i hl hi).one (h _ (List.getElem_mem hl))
theorem DR{α:Type}(l us:List α)(off n:Nat)(h:off+us.length≤n)(hn:n≤l.length):(setAt l off us).take n=setAt (l.take n) off us:=by
 unfold setAt;have h1:(l.take off++us).length=off+us.length:=by simp;omega
 rw[List.take_append,h1,List.take_of_length_le (by omega),List.take_take,Nat.min_eq_left (by omega),List.drop_take]
theorem Bu(H:WR K h w)(hρ:∀x v,ρA x=some v→VR K v (ρ x)){t bt:TypeId}{x y:Operand}{i off:Nat}{v:AV}{cells:List AV}(ho:o.op=.store t x y)(hx:ρA x=some (.ptr i off))(hy:ρA y=some v)
  (hi:h[i]? = some (.box bt cells)) (hs:jS P t=some v.cells.length) (hle:off+v.cells.length≤cells.length) (hc:v.cells.all AV.isCell=true) :
  Eff P o ρ K h w (.tup []) (h.set i (.box bt (setAt cells off v.cells))) [i]:=by
 obtain⟨g,cs,hm,hw,hsz,hvl⟩:=H.box i bt cells hi;have hxv:=hρ x _ hx;generalize hxe:ρ x=xv at hxv;cases hxv with
 |ptr _ _ g' hm'=>
  rw[hm] at hm';cases hm';have hyv:=(hρ y v hy).cells;have hlen:(ρ y).cells.size=v.cells.length:=by have:=hyv.1;simpa using this.symm
  have hcl:cells.length≤cs.size:=by have:=hvl.1;simp at this;omega
  have hst:=run_storeCells_at P g off bt (ρ y).cells.toList 0 cs w hw (by simp;omega) (zU hyv hc);simp only[Nat.add_zero] at hst;refine⟨.skip,_,w.setRow g (setAt cs.toList off (ρ y).cells.toList).toArray,K,?_,.inr ⟨rfl,rfl⟩,VR.undef K,?_,?_⟩
  ·simp[execOp,ho,Instr.storeAt,Instr.sureAddr,hxe,storeVar,dV hs,hlen]
   simp only[Array.length_toList] at hst;rw[hst];simp[setAt]
  ·refine Step.store H i (.box bt cells) (.box bt (setAt cells off v.cells)) g hi rfl rfl hm ⟨_,setRow_heap w g cs _ bt _ hw,⟨?_,hsz.2⟩,?_⟩ (fun o=>H.apart i bt cells g hi hm o) ⟨rfl,rfl,rfl,by simp[World.setRow],fun k _ hk=>setRow_other w g k _ hk⟩ (by simp[World.setRow]) (fun k hk=>setRow_other w g k _ hk)
   ·rw[←hsz.1];simp[setAt];omega
   ·have h1:=hvl.setAt hyv off
    have h2:(setAt cells off v.cells).length=cells.length:=by simp[setAt];omega
    rw[h2];have h3:(setAt cs.toList off (ρ y).cells.toList).take cells.length=setAt (cs.toList.take cells.length) off (ρ y).cells.toList:=by
     have hz:(ρ y).cells.toList.length=v.cells.length:=by simpa using hlen
     exact DR _ _ _ _ (by rw[hz];exact hle) (by simpa using hcl)
    show VL K _ (List.take cells.length (setAt cs.toList off (ρ y).cells.toList));rw[h3];exact h1
  ·exact⟨rfl,rfl,rfl,by simp[World.setRow],fun k hk hs=>setRow_other w g k _ (fun e=>hs ⟨i,_,by simp,hi,rfl,by rw[e];exact hm⟩)⟩
end
theorem mW{K:Kn}:∀{l:List AV} {cs:List Value} {ps:List PV},VL K l cs→Bt l=some ps→ps.length=cs.length∧∀i (h:i<ps.length) (h':i<cs.length),PR K.R K.M ps[i] cs[i]
 |[],cs,ps,hv,h=>by
  cases h;exact⟨hv.1,fun i h=>by simp at h⟩
 |a::l,[],ps,hv,_=>by have:=hv.1;simp at this
 |a::l,c::cs,ps,hv,h=>by
  rw[Bt] at h;split at h
  ·rename_i p r hp hr
   cases h;obtain⟨h1,h2⟩:=mW (cs:=cs) ⟨by simpa using hv.1,fun i hi hi'=>hv.2 (i+1) (by simpa using hi) (by simpa using hi')⟩ hr;refine⟨by simpa using h1,fun i hi hi'=>?_⟩;cases i with
   |zero=>exact(hv.2 0 (by simp) (by simp)).toPV hp
   |succ i=>exact h2 i (by simpa using hi) (by simpa using hi')
  ·cases h
theorem AX(sz:Nat):∀(n:Nat) (l:List PV),(chunk sz n l).length=n
 |0,_=>rfl
 |n+1,l=>by simp[chunk,AX sz n]
theorem zJ(sz:Nat):∀(n:Nat) (l:List PV),l.length=n*sz→∀i (h:i<(chunk sz n l).length),(chunk sz n l)[i].length=sz∧∀j (hj:j<(chunk sz n l)[i].length),l[i*sz+j]? = some (chunk sz n l)[i][j]
 |0,l,_,i,h=>by simp[chunk] at h
 |n+1,l,hl,i,h=>by
  rw[Nat.succ_mul] at hl;cases i with
  |zero=>
   simp only[chunk,List.getElem_cons_zero];refine⟨by simp;omega,fun j hj=>?_⟩;rw[Nat.zero_mul,Nat.zero_add,List.getElem_take,List.getElem?_eq_getElem]
  |succ i=>
   simp only[chunk,List.getElem_cons_succ];obtain⟨h1,h2⟩:=zJ sz n (l.drop sz) (by simp;omega) i (by simpa[chunk] using h);refine⟨h1,fun j hj=>?_⟩;have:=h2 j hj;rw[List.getElem?_drop] at this;rw[←this];congr 1;rw[Nat.succ_mul];omega
theorem ji{K:Kn}{zc:List AV}{z:Array Value}(hv:VL K zc z.toList)(hp:0<zc.length)(n:Nat):VL K (fD zc n) ((Array.range n).map (z[· % z.size]!)).toList:=by
 have hl:zc.length=z.size:=by have:=hv.1;simpa using this
 refine⟨by simp[fD],fun i hi hi'=>?_⟩;have hlt:i%zc.length<zc.length:=Nat.mod_lt _ hp;have hlt':i%z.size<z.size:=Nat.mod_lt _ (by omega);have:=hv.2 (i%zc.length) hlt (by simpa[hl] using hlt');simp only[fD,List.getElem_map,List.getElem_range,Array.toList_map,Array.toList_range];rw[List.getD_eq_getElem?_getD,List.getElem?_eq_getElem hlt,Option.getD_some];rw[getElem!_pos z (i%z.size) hlt'];simpa[hl] using this
theorem Hf(K:Kn)(i g n sz cap:Nat)(cur:Array Value):(K.withTok i g n sz cap cur).Z g=cap:=by show (if g=g then cap else K.Z g)=cap;rw[if_pos rfl]
theorem Hl(K:Kn)(i g n sz cap:Nat)(cur:Array Value):(K.withTok i g n sz cap cur).E g=sz:=by show (if g=g then sz else K.E g)=sz;rw[if_pos rfl]
theorem Hg(K:Kn)(i g n sz cap:Nat)(cur:Array Value)(o:Nat)(h:o<n*sz)(hold:∀o v,K.M g o=some v→o<n*sz∧cur[o]? = some v):(K.withTok i g n sz cap cur).M g o=cur[o]?:=by
 show (if g=g∧o<n*sz then(K.M g o).or cur[o]? else K.M g o)=_;rw[if_pos ⟨rfl,h⟩];cases hk:K.M g o with
 |none=>rfl
 |some u=>exact(hold o u hk).2.symm
theorem qK{i j n s:Nat}(hi:i<n)(hj:j<s):i*s+j<n*s:=by
 calc i*s+j<i*s+s:=by omega
  _=(i+1)*s:=by rw[Nat.succ_mul]
  _≤n*s:=Nat.mul_le_mul_right _ hi
theorem VR.ofTok{K K0:Kn}{t g n sz cap:Nat}{cur:Array Value}{es:List (List PV)}(hx:Ext K0 (K.withTok t g n sz cap cur))(hold:∀o v,K.M g o=some v→o<n*sz∧cur[o]? = some v)(hn:es.length=n)(hcap:n≤cap)(hsz:∀i (h:i<es.length),es[i].length=sz)
  (hc:∀i (h:i<es.length) j (hj:j<es[i].length),∃u,cur[i*sz+j]? = some u∧PR K0.R K0.M es[i][j] u) :
  VR (K.withTok t g n sz cap cur) (.trows t es) (.slice (some ⟨g,0,none⟩) n cap):=by
 have key:=VR.trows (K:=K.withTok t g n sz cap cur) t es g (fun i j=>(cur[i*sz+j]?).getD Go.undef) (PN _ _ _ _ _ _ _) (by rw[Hf,hn];exact hcap) (by rw[Hl];exact hsz)
  (fun i hi j hj=>by
   rw[Hl] at hj ⊢;rw[Hg _ _ _ _ _ _ _ _ (by rw[←hn];exact qK hi hj) hold];obtain⟨u,hu,_⟩:=hc i hi j (by rw[hsz i hi];exact hj);rw[hu];rfl)
  (fun i hi j hj=>by
   obtain⟨u,hu,hp⟩:=hc i hi j hj;show PR _ _ _ ((cur[i*sz+j]?).getD Go.undef);rw[hu];exact hp.ext hx)
 rw[Hf,hn] at key;exact key
section
variable{P:Program}{o:Oper}{ρ:Operand→Value}{ρA:Operand→Option AV}{K:Kn}{h:List ah}{w:World}
theorem Step.newRow(H:WR K h w){w':World}(ty:TypeId)(n sz cap:Nat)(cur:Array Value)(hw':w'.heap=w.heap.push (.cells cur ty))(hfr:jv (fun _=>False) w w')(hcs:cur.size=cap*sz)(hcap:cap≤maxLen){n':Nat}(hn':dl K.R n'=n) :
  Step K h w (K.withTok h.length w.heap.size n sz cap cur) (h++[.tok ty sz n']) w':=by
 refine Step.withTok H ty w.heap.size n sz cap cur (by rw[hw'];simp) hcs hcap (hfr.mono (fun _ _ h=>h.elim)) (fun o v hm=>?_) rfl (fun j x hj _=>⟨hj,fun e=>?_⟩) (fun i hi=>?_) (.inl (Nat.le_refl _)) hn'
 ·rw[H.noM (Nat.le_refl _) o] at hm;cases hm
 ·have:=H.lt j _ e;omega
 ·have:=H.lt i _ hi;omega
theorem A8(H:WR K h w)(hρ:∀x v,ρA x=some v→VR K v (ρ x)){t:TypeId}{len:Nat}{parts:Array (Nat×Operand)}{ps:List (Nat×AV)}{e:TypeId}{s:Nat}{pvs:List PV}
  (ho:o.op=.buildSlice t len parts) (hps:oZ ρA parts.toList=some ps) (hb:Rl P t len ps=some (e,s,pvs)) :
  Eff P o ρ K h w (.trows h.length (chunk s len pvs)) (h++[.tok e s len]) []:=by
 unfold Rl at hb;split at hb
 ·rename_i e' hu
  split at hb
  ·rename_i zc s' hz hs
   split at hb
   ·rename_i hc
    split at hb
    ·rename_i out hf
     split at hb
     ·rename_i pvs' hp
      cases hb;obtain⟨ie,z,hi,hiz,hvz⟩:=bL (K:=K) hz;obtain⟨h1,h2⟩:=lm hρ _ _ hps;have hies:ie.size=s:=by unfold jS at hs;rw[hi] at hs;simpa using hs
      obtain⟨us,hfill,hvu⟩:=kS _ ps (gm ρ parts.toList) _ ((Array.range (len*s)).map (z.cells[· % z.cells.size]!)) out (ji hvz (by omega) _) h1 h2 hf;obtain⟨hpl,hpr⟩:=mW hvu hp;have hout:∀(ps:List (Nat×AV)) (cells out:List AV),rM (fun i=>some (i*s,s)) cells ps=some out→out.length=cells.length:=by
       intro ps
       induction ps with
       |nil=>intro cells out hf;cases hf;rfl
       |cons q ps ih=>
        intro cells out hf;obtain⟨qi,qv⟩:=q;simp only[rM] at hf;split at hf
        ·cases hf
        ·rename_i hcond
         rw[ih _ _ hf];simp[setAt];omega
      have hol:=hout _ _ _ hf;have hzl:(fD zc (len*s)).length=len*s:=by simp[fD]
      have husz:us.size=len*s:=by have:=hvu.1;simp at this;omega
      have hlen:len≤16777216:=Nat.le_trans (Nat.le_mul_of_pos_right len hc.1) hc.2.2;have hrun:(execOp ρ o).run P w=.ok (.value (.slice (some ⟨w.heap.size,0,none⟩) len len)) (w.alloc (.cells us e)):=by
       have hp':(parts.map fun(i,x)=>(i,ρ x)).toList=gm ρ parts.toList:=by simp[gm]
       by_cases h0:len*s=0
       ·have hl0:len=0:=by
         rcases Nat.mul_eq_zero.1 h0 with h0|h0
         ·exact h0
         ·omega
        subst hl0;have e0:∀f:Nat→Value,(Array.range (0*s)).map f = #[]:=fun f=>by apply Array.ext';simp
        rw[e0] at hfill;simp only[execOp,ho,Instr.buildSlice,Sem.run_bind,run_underlying hu,Result.andThen_ok,dV hs];rw[if_neg (by simp),if_pos (by simp)];simp only[Sem.run_bind,Sem.run_pure,Result.andThen_ok,e0,hp',hfill];simp[newRow]
       ·have:=run_buildSlice (P:=P) w t e len (parts.map fun(i,x)=>(i,ρ x)) us ie z hu hi hiz (by rw[hies];have:=hc.2.2;omega) (by rw[hies];exact h0) (by rw[hies,hp'];exact hfill)
        simp only[execOp,ho,Sem.run_bind,this,Result.andThen_ok,Sem.run_pure]
      have hst:=Step.newRow H (w':=w.alloc (.cells us e)) e len s len us rfl (jv.alloc _ _ _) husz (by unfold maxLen;omega) (gq (by unfold aH;omega));refine⟨_,_,_,_,hrun,.inl rfl,VR.ofTok hst.ext (fun o v hmv=>by rw[H.noM (Nat.le_refl _) o] at hmv;cases hmv) (AX _ _ _) (Nat.le_refl _) (fun i hi=>?_) (fun i hi j hj=>?_),hst,jv.alloc _ _ _⟩
      ·exact(zJ s len pvs (by rw[hpl];simpa using husz) i hi).1
      ·have hca:=(zJ s len pvs (by rw[hpl];simpa using husz) i hi)
       have hg:=hca.2 j hj;have hlt:i*s+j<pvs.length:=by
        by_cases hh:i*s+j<pvs.length
        ·exact hh
        ·rw[List.getElem?_eq_none (by omega)] at hg;cases hg
       have hlt':i*s+j<us.toList.length:=by omega
       refine⟨us.toList[i*s+j],?_,?_⟩
       ·rw[←Array.getElem?_toList,List.getElem?_eq_getElem hlt']
       ·have:=hpr (i*s+j) hlt hlt'
        rw[List.getElem?_eq_getElem hlt] at hg
        rwa [Option.some.inj hg] at this
     ·cases hb
    ·cases hb
   ·cases hb
  ·cases hb
 ·cases hb
end
section
variable{P:Program}{o:Oper}{ρ:Operand→Value}{ρA:Operand→Option AV}{K:Kn}{h:List ah}{w:World}
theorem yI{es:List (List PV)}{v:Value}{sz:Nat}(hv:PR K.R K.M (.rows es) v)(hne:es≠[])(hs:∀i (h:i<es.length),es[i].length=sz)(hp:0<sz) :
  ∃(g off cap:Nat) (news:List Value),v=.slice (some ⟨g,off,none⟩) es.length cap∧news.length=es.length*sz∧(∀j u,news[j]? = some u→K.M g (off+j)=some u)∧
   ∀i (h:i<es.length) j (hj:j<es[i].length),∃u,news[i*sz+j]? = some u∧PR K.R K.M es[i][j] u:=by
 cases hv with
 |rows es a cap g off sz' us ha hn hsz hc hr=>
  have hl0:0<es.length:=List.length_pos_iff.2 hne;have e:sz'=sz:=by rw[←hsz 0 hl0,hs 0 hl0]
  subst e;rw[ha hne];refine⟨g,off,cap,(List.range (es.length*sz')).map fun k=>us (k/sz') (k%sz'),rfl,by simp,fun j u hj=>?_,fun i hi j hj=>?_⟩
  ·have hlt:j<es.length*sz':=by
    by_cases hh:j<es.length*sz'
    ·exact hh
    ·rw[List.getElem?_eq_none (by simp;omega)] at hj;cases hj
   rw[List.getElem?_map,List.getElem?_range hlt] at hj;cases hj;have h1:j/sz'<es.length:=Nat.div_lt_of_lt_mul (by rw[Nat.mul_comm];exact hlt);have:=hc (j/sz') h1 (j%sz') (Nat.mod_lt _ hp);have e2:j/sz'*sz'+j%sz'=j:=by rw[Nat.mul_comm];exact Nat.div_add_mod j sz'
   rwa [Nat.add_assoc,e2] at this
  ·rw[hs i hi] at hj
   refine⟨us i j,?_,hr i hi j (by rw[hs i hi];exact hj)⟩;rw[List.getElem?_map,List.getElem?_range (qK hi hj)];have e1:(i*sz'+j)/sz'=i:=by
    rw[Nat.add_comm,Nat.add_mul_div_right _ _ hp,Nat.div_eq_of_lt hj,Nat.zero_add]
   have e2:(i*sz'+j)%sz'=j:=by
    rw[Nat.add_comm,Nat.add_mul_mod_self_right,Nat.mod_eq_of_lt hj]
   simp[e1,e2]
theorem add_mid(g off j:Nat):(⟨g,off,none⟩:Addr).add j=⟨g,off+j,none⟩:=Addr.add_lit g off j
theorem iA(t ty e:TypeId)(i:TypeInfo)(hu:P.underlying t=some (.slice e))(hi:P.info? e=some i)(base a:Option Addr)(n cap c:Nat)(hn:n≤cap)(w':World) :
  (Builtin.append_ #[t,t] ty #[.slice base n cap,.slice a 0 c]).run P w'=.ok (.slice base n cap) w':=by
 cases base<;>cases a<;>simp[Builtin.append_,run_underlying hu,sizeOf,typeInfo,hi,Builtin.lenOf,hn,Builtin.firstCells,loadCells,loadCellsFrom,storeCells]
theorem cZ{args:Array Operand}{s x:Operand}(ha:args.toList=[s,x]){t:TypeId}{ts:Array TypeId}(hts:ts.toList=[t,t])(ho:o.op=.call ⟨.builtin .append,args,ts⟩){v:Value}{w':World}
  (hr:(Builtin.append_ #[t,t] o.type #[ρ s,ρ x]).run P w=.ok v w'):(execOp ρ o).run P w=.ok (.value v) w':=by
 have e1:args = #[s,x]:=by rw[←Array.toArray_toList (xs:=args),ha]
 have e2:ts = #[t,t]:=by rw[←Array.toArray_toList (xs:=ts),hts]
 subst e1;subst e2;simp only[execOp,ho,resolve,invoke,builtin,Sem.run_bind,Sem.run_pure,Result.andThen_ok,List.map_toArray,List.map_cons,List.map_nil,hr]
theorem fU{a:AV}{v:Value}(hv:VR K a v)(hn:bn a=true):v=.slice none 0 0:=by
 unfold bn at hn;split at hn
 ·exact bW hv rfl
 ·cases hn
theorem qR{dlf enc:Nat→Nat}(H:WR K h w){args:Array Operand}{s x:Operand}(ha:args.toList=[s,x]){t:TypeId}{ts:Array TypeId}(hts:ts.toList=[t,t])(ho:o.op=.call ⟨.builtin .append,args,ts⟩)
  {sA:AV} (hs:VR K sA (ρ s)) {es':List (List PV)} (hx:PR K.R K.M (.rows es') (ρ x)∨(es'=[]∧ρ x=.slice none 0 0)) {v:AV} {h':List ah} {touch:List Nat} (hq:tF dlf enc P t sA es' h=some (v,h',touch))
  (hdl:∀n,dlf n≤1000000000000→dlf n=dl K.R n)
  (henc:∀es,rowsOf sA=some es→es.length+es'.length≤1000000000000→dl K.R (enc (es.length+es'.length))=es.length+es'.length)
  (henc0:bn sA=true→es'.length≤1000000000000→dl K.R (enc es'.length)=es'.length) :
  Eff P o ρ K h w v h' touch:=by
 unfold tF at hq;split at hq
 ·rename_i e hu
  split at hq
  ·rename_i sz by_ zc hsz hby hz
   obtain⟨i,z,hi,hiz,hvz⟩:=bL (K:=K) hz;have his:i.size=sz:=by unfold jS at hsz;rw[hi] at hsz;simpa using hsz
   have hib:i.bytes=by_:=by unfold gT at hby;rw[hi] at hby;simpa using hby
   split at hq
   ·split at hq
    ·rename_i hc
     cases hq;obtain⟨base,n,cap,hse,hn⟩:∃base n cap,ρ s=.slice base n cap∧n≤cap:=by
      rw[Bool.or_eq_true] at hc;rcases hc with hc|hc
      ·exact⟨none,0,0,fU hs hc,Nat.le_refl _⟩
      ·cases hr:rowsOf sA with
       |none=>rw[hr] at hc;cases hc
       |some es=>
        have:=fE hs hr;generalize ρ s=sv at this;cases this with
        |rows _ a cap g off sz us ha hn _ _ _=>exact⟨a,_,cap,rfl,hn⟩
     obtain⟨a,c,hxe⟩:∃a c,ρ x=.slice a 0 c:=by
      rcases hx with hx|⟨_,hx⟩
      ·generalize ρ x=xv at hx
       cases hx with
       |rows _ a cap g off sz us ha hn _ _ _=>exact⟨a,cap,rfl⟩
      ·exact⟨none,0,hx⟩
     refine⟨_,ρ s,w,K,cZ ha hts ho (v:=ρ s) ?_,.inl rfl,hs,Step.refl H,jv.refl _ _⟩;rw[hse,hxe];exact iA t o.type e i hu hi base a n cap c hn w
    ·cases hq
   ·rename_i c0 cs0
    split at hq
    ·rename_i hc
     obtain⟨hp,hzl,hall⟩:=hc;have hsize:∀k (hk:k<(c0::cs0).length),(c0::cs0)[k].length=sz:=by
      intro k hk;rw[List.all_eq_true] at hall;simpa using hall _ (List.getElem_mem hk)
     have hx':PR K.R K.M (.rows (c0::cs0)) (ρ x):=by
      rcases hx with hx|⟨hx,_⟩
      ·exact hx
      ·cases hx
     obtain⟨gx,offx,capx,news,hxe,hnl,hnM,hnP⟩:=yI hx' (by simp) hsize hp;have hncell:∀j u,news[j]? = some u→w.cell? ((⟨gx,offx,none⟩:Addr).add j)=some u:=fun j u hj=>by
      rw[add_mid];exact H.agr _ _ _ (hnM j u hj)
     have h1:∀u∈news,u.oneCell'=true:=by
      intro u hu';obtain⟨k,hk,rfl⟩:=List.getElem_of_mem hu';have hk':=hk;rw[hnl] at hk;have h1:k/sz<(c0::cs0).length:=Nat.div_lt_of_lt_mul (by rw[Nat.mul_comm];exact hk);obtain⟨u',hu1,hu2⟩:=hnP (k/sz) h1 (k%sz) (by rw[hsize _ h1];exact Nat.mod_lt _ hp);have e2:k/sz*sz+k%sz=k:=by rw[Nat.mul_comm];exact Nat.div_add_mod k sz
      rw[e2,List.getElem?_eq_getElem hk'] at hu1;rw[Option.some.inj hu1];exact hu2.one
     have hzs:z.cells.size=sz:=by have:=hvz.1;simp at this;omega
     split at hq
     ·rename_i tk es
      split at hq
      ·rename_i ty sz' len htk
       split at hq
       ·rename_i hcond
        obtain⟨rfl,rfl,hlen,hmx,hbt⟩:=hcond;cases hq;obtain⟨g,cs,hm,hwg,hcs,hE,hZ,hMn⟩:=H.tok tk ty sz' len htk;generalize hse:ρ s=sv at hs;cases hs with
        |trows _ _ g' us hm' hn' hsz' hc' hr'=>
         rw[hm] at hm';cases hm';rw[hE] at hsz' hc';have hdl':dl K.R len=es.length:=by rw[←hdl len (by omega),hlen]
         rw[←hlen] at hmx hbt;have henc':=henc es rfl (by omega);rw[hdl'] at hMn;rw[←hlen];have hold:∀o v,K.M g o=some v→o<es.length*sz'∧cs[o]? = some v:=by
          intro o v hmv;refine⟨?_,?_⟩
          ·by_cases hh:o<es.length*sz'
           ·exact hh
           ·rw[hMn o (by omega)] at hmv;cases hmv
          ·have:=H.agr g o v hmv
           simpa[World.cell?,hwg] using this
         have hcell:∀i (hi:i<es.length) j (hj:j<es[i].length),∃u,cs[i*sz'+j]? = some u∧PR K.R K.M es[i][j] u:=by
          intro i hi j hj;have hj':=hj;rw[hsz' i hi] at hj';exact⟨us i j,(hold _ _ (hc' i hi j hj')).2,hr' i hi j hj⟩
         have hmul:es.length*sz'≤cs.size:=by rw[hcs];exact Nat.mul_le_mul_right _ hn'
         have hsetlen:(h.set tk .dead).length=h.length:=by simp
         have htl:tk<h.length:=by
          by_cases hh:tk<h.length
          ·exact hh
          ·rw[List.getElem?_eq_none (by omega)] at htk;cases htk
         have hlive:∀(j:Nat) x,(h.set tk .dead)[j]? = some x→x.live=true→h[j]? = some x∧j≠tk:=by
          intro j x hj hl;rw[List.getElem?_set] at hj;by_cases ej:tk=j
          ·rw[if_pos ej,if_pos (by omega)] at hj;cases hj;cases hl
          ·rw[if_neg ej] at hj;exact⟨hj,fun e=>ej e.symm⟩
         have esz:∀k (hk:k<(es++c0::cs0).length),(es++c0::cs0)[k].length=sz':=by
          intro k hk;by_cases hkl:k<es.length
          ·rw[List.getElem_append_left hkl];exact hsz' k hkl
          ·rw[List.getElem_append_right (by omega)];exact hsize _ _
         have ecell:∀(cur:Array Value),(∀q,q<es.length*sz'→cur[q]? = cs[q]?)→(∀q,q<news.length→cur[es.length*sz'+q]? = news[q]?)→
           ∀i (hi:i<(es++c0::cs0).length) j (hj:j<(es++c0::cs0)[i].length),∃u,cur[i*sz'+j]? = some u∧PR K.R K.M (es++c0::cs0)[i][j] u:=by
          intro cur hq1 hq2 i hi j hj;by_cases hil:i<es.length
          ·have e1:(es++c0::cs0)[i]=es[i]:=List.getElem_append_left hil
           have hj1:j<es[i].length:=by rw[←e1];exact hj
           obtain⟨u,hu1,hu2⟩:=hcell i hil j hj1;refine⟨u,?_,by simpa[e1] using hu2⟩;rw[hq1 _ (qK hil (by rw[←hsz' i hil];exact hj1))];exact hu1
          ·have e1:(es++c0::cs0)[i]=(c0::cs0)[i-es.length]'(by simp at hi ⊢;omega):=List.getElem_append_right (by omega)
           have hi1:i-es.length<(c0::cs0).length:=by simp at hi ⊢;omega
           have hj1:j<((c0::cs0)[i-es.length]).length:=by rw[←e1];exact hj
           obtain⟨u,hu1,hu2⟩:=hnP (i-es.length) hi1 j hj1;refine⟨u,?_,by simpa[e1] using hu2⟩;have hjs:j<sz':=by rw[←hsize _ hi1];exact hj1
           have e2:i*sz'+j=es.length*sz'+((i-es.length)*sz'+j):=by
            rw[←Nat.add_assoc,←Nat.add_mul];congr 2;omega
           rw[e2,hq2 _ (by rw[hnl];exact qK hi1 hjs)];exact hu1
         by_cases hroom:es.length+(c0::cs0).length≤K.Z g
         ·have hfit:es.length*sz'+news.length≤cs.size:=by rw[hnl,hcs,←Nat.add_mul];exact Nat.mul_le_mul_right _ hroom
          have hrun:=run_append_room (P:=P) w t o.type ty i hu hi g es.length (K.Z g) cs hwg ⟨gx,offx,none⟩ (c0::cs0).length capx news (by rw[his];exact hnl) hncell h1 hroom (by rw[his];exact hfit);rw[his] at hrun;rw[←hse,←hxe] at hrun;generalize hcur:(cs.toList.take (es.length*sz')++news++cs.toList.drop (es.length*sz'+news.length)).toArray=cur at hrun;have hcurs:cur.size=K.Z g*sz':=by rw[←hcur,←hcs];simp;omega
          have q1:∀q,q<es.length*sz'→cur[q]? = cs[q]?:=by
           intro q hq;rw[←hcur,List.getElem?_toArray,List.append_assoc,List.getElem?_append_left (by simp;omega),List.getElem?_take,if_pos hq,Array.getElem?_toList]
          have q2:∀q,q<news.length→cur[es.length*sz'+q]? = news[q]?:=by
           intro q hq;rw[←hcur,List.getElem?_toArray,List.getElem?_append_left (by simp;omega),List.getElem?_append_right (by simp;omega)];congr 1;simp;omega
          have hst:=Step.withTok H (h1:=h.set tk .dead) (w':=w.setRow g cur) ty g (es.length+(c0::cs0).length) sz' (K.Z g) cur (setRow_heap w g cs cur ty _ hwg) hcurs hZ ⟨rfl,rfl,rfl,by simp[World.setRow],fun k _ hk=>setRow_other w g k _ hk⟩
           (fun o v hmv=>by
            obtain⟨h2,h3⟩:=hold o v hmv;exact⟨Nat.lt_of_lt_of_le h2 (Nat.mul_le_mul_right _ (by omega)),by rw[q1 o h2];exact h3⟩)
           hsetlen (fun j x hj hl=>by
            obtain⟨h2,h3⟩:=hlive j x hj hl;exact⟨h2,fun e=>h3 (H.inj j tk x _ g h2 htk hl rfl e hm)⟩)
           (fun i _=>⟨rfl,hE⟩) (.inr ⟨tk,_,htk,rfl,hm⟩) henc'
          refine⟨_,_,_,_,cZ ha hts ho hrun,.inl rfl,VR.ofTok hst.ext (fun o v hmv=>by
            obtain⟨h2,h3⟩:=hold o v hmv;exact⟨Nat.lt_of_lt_of_le h2 (Nat.mul_le_mul_right _ (by omega)),by rw[q1 o h2];exact h3⟩) (by simp) hroom esz (ecell cur q1 q2),hst,⟨rfl,rfl,rfl,by simp[World.setRow],fun k _ hk=>setRow_other w g k _ (fun e=>hk ⟨tk,_,by simp,htk,rfl,by rw[e];exact hm⟩)⟩⟩
         ·have holds:∀j v,(cs.toList.take (es.length*sz'))[j]? = some v→w.cell? ((⟨g,0,none⟩:Addr).add j)=some v:=by
           intro j v hj;rw[add_mid,Nat.zero_add];rw[List.getElem?_take] at hj;split at hj
           ·rw[Array.getElem?_toList] at hj
            simp[World.cell?,hwg,hj]
           ·cases hj
          have hrun:=run_append_grow (P:=P) w t o.type ty i z hu hi hiz ⟨g,0,none⟩ es.length (K.Z g) (cs.toList.take (es.length*sz')) (by rw[his];simp;omega) holds ⟨gx,offx,none⟩ (c0::cs0).length capx news (by rw[his];exact hnl) hncell (by omega) (by omega) (growslice_fits (by omega) (by rw[hib];exact hbt));rw[←hse,←hxe] at hrun;have hge:=grownCap_ge w (es.length+(c0::cs0).length) (K.Z g) ty;have hcm:=grownCap_le_maxLen w (es.length+(c0::cs0).length) (K.Z g) ty (by unfold maxLen;omega);generalize grownCap w (es.length+(c0::cs0).length) (K.Z g) ty=cap at *;generalize hcur:(cs.toList.take (es.length*sz')).toArray++news.toArray++Builtin.zeroCells z.cells (cap-(es.length+(c0::cs0).length))=cur at hrun;have hcurs:cur.size=cap*sz':=by
           rw[←hcur];simp only[Array.size_append,List.size_toArray,size_zeroCells,hzs,hnl,List.length_take,Array.length_toList,Nat.min_eq_left hmul,←Nat.add_mul];congr 1;omega
          have q1:∀q,q<es.length*sz'→cur[q]? = cs[q]?:=by
           intro q hq;rw[←hcur,Array.getElem?_append_left (by simp;omega),Array.getElem?_append_left (by simp;omega),List.getElem?_toArray,List.getElem?_take,if_pos hq,Array.getElem?_toList]
          have q2:∀q,q<news.length→cur[es.length*sz'+q]? = news[q]?:=by
           intro q hq;rw[←hcur,Array.getElem?_append_left (by simp;omega),Array.getElem?_append_right (by simp;omega),List.getElem?_toArray];congr 1;simp;omega
          have hst:=Step.withTok H (h1:=h.set tk .dead) (w':=w.drew.alloc (.cells cur ty)) ty w.heap.size (es.length+(c0::cs0).length) sz' cap cur (heap_alloc_new w.drew _) hcurs hcm (jv.drewAlloc _ _ _)
           (fun o v hmv=>by rw[H.noM (Nat.le_refl _) o] at hmv;cases hmv)
           hsetlen (fun j x hj hl=>by
            obtain⟨h2,h3⟩:=hlive j x hj hl;exact⟨h2,fun e=>by have:=H.lt j _ e;omega⟩)
           (fun i hi=>by have:=H.lt i _ hi;omega) (.inl (Nat.le_refl _)) henc'
          refine⟨_,_,_,_,cZ ha hts ho hrun,.inl rfl,VR.ofTok hst.ext (fun o v hmv=>by rw[H.noM (Nat.le_refl _) o] at hmv;cases hmv) (by simp) hge esz (ecell cur q1 q2),hst,jv.drewAlloc _ _ _⟩
       ·cases hq
      ·cases hq
     ·split at hq
      ·rename_i hcond
       obtain⟨hnil,hmx,hbt⟩:=hcond;cases hq;have hse:=fU hs hnil;have hrun:=run_append_nil (P:=P) w t o.type e i z hu hi hiz ⟨gx,offx,none⟩ (c0::cs0).length capx news (by rw[his];exact hnl) hncell (by simp) (by omega) (by rw[hib];omega);rw[←hse,←hxe] at hrun;have hge:=grownCap_ge w (c0::cs0).length 0 e;have hcm:=grownCap_le_maxLen w (c0::cs0).length 0 e (by unfold maxLen;omega);generalize grownCap w (c0::cs0).length 0 e=cap at *;generalize hcur:news.toArray++Builtin.zeroCells z.cells (cap-(c0::cs0).length)=cur at hrun;have hcurs:cur.size=cap*sz:=by
        rw[←hcur];simp only[Array.size_append,List.size_toArray,size_zeroCells,hzs,hnl,←Nat.add_mul];congr 1;omega
       have hst:=Step.newRow H (w':=w.drew.alloc (.cells cur e)) e (c0::cs0).length sz cap cur rfl (jv.drewAlloc _ _ _) hcurs hcm (henc0 hnil hmx);refine⟨_,_,_,_,cZ ha hts ho hrun,.inl rfl,VR.ofTok hst.ext (fun o v hmv=>by rw[H.noM (Nat.le_refl _) o] at hmv;cases hmv) rfl hge hsize (fun i hi j hj=>?_),hst,jv.drewAlloc _ _ _⟩;obtain⟨u,hu1,hu2⟩:=hnP i hi j hj;refine⟨u,?_,hu2⟩;have hjs:j<sz:=by rw[←hsize _ hi];exact hj
       rw[←hcur,Array.getElem?_append_left (by rw[List.size_toArray,hnl];exact qK hi hjs),List.getElem?_toArray];exact hu1
      ·cases hq
    ·cases hq
  ·cases hq
 ·cases hq
theorem zR(H:WR K h w){args:Array Operand}{s x:Operand}(ha:args.toList=[s,x]){t:TypeId}{ts:Array TypeId}(hts:ts.toList=[t,t])(ho:o.op=.call ⟨.builtin .append,args,ts⟩)
  {sA:AV} (hs:VR K sA (ρ s)) {es':List (List PV)} (hx:PR K.R K.M (.rows es') (ρ x)∨(es'=[]∧ρ x=.slice none 0 0)) {v:AV} {h':List ah} {touch:List Nat} (hq:zS P t sA es' h=some (v,h',touch)) :
  Eff P o ρ K h w v h' touch:=
 qR H ha hts ho hs hx hq (fun n hn=>(gq (by unfold aH;simp only[id] at hn ⊢;omega)).symm) (fun es _ hn=>gq (by unfold aH;simp only[id];omega)) (fun _ hn=>gq (by unfold aH;simp only[id];omega))
end
end Go.Proofs.YtfphhabaeggenaaGreatDoor
namespace Go.Proofs.YtfphhabaeggenaaGreatDoor
open Go.RowKit
section
variable{P:Program}{o:Oper}{ρ:Operand→Value}{ρA:Operand→Option AV}{K:Kn}{h:List ah}{w:World}
theorem Wu(H:WR K h w)(hρ:∀x v,ρA x=some v→VR K v (ρ x)){v:AV}{h':List ah}{touch:List Nat}(hq:eop P o.op ρA h=some (v,h',touch)):Eff P o ρ K h w v h' touch:=by
 unfold eop at hq;split at hq
 ·rename_i t ho
  split at hq
  ·rename_i l hz
   cases hq;exact Pk H ho hz
  ·cases hq
 ·rename_i t x ho
  split at hq
  ·rename_i r hr
   cases hq;exact WJ H hρ ho hr
  ·cases hq
 ·rename_i t len parts ho
  split at hq
  ·rename_i ps hps
   split at hq
   ·rename_i e s pvs hb
    cases hq;exact A8 H hρ ho hps hb
   ·cases hq
  ·cases hq
 ·rename_i t x y ho
  split at hq
  ·rename_i i off r hx hy
   split at hq
   ·rename_i bt cells hi
    split at hq
    ·rename_i hc
     cases hq;exact Bu H hρ ho hx hy hi hc.1 hc.2.1 hc.2.2
    ·cases hq
   ·cases hq
  ·cases hq
 ·rename_i args ts ho
  split at hq
  ·rename_i s x t t' hops hts
   split at hq
   ·rename_i ht
    subst ht;have hv:=ig hρ _ _ hops;obtain⟨so,xo,ha⟩:∃so xo,args.toList=[so,xo]:=by
     have:=hv.1
     match hargs:args.toList with
     |[]=>rw[hargs] at this;simp at this
     |[_]=>rw[hargs] at this;simp at this
     |[a,b]=>exact⟨a,b,rfl⟩
     |_::_::_::_=>rw[hargs] at this;simp at this
    rw[ha] at hv;have hs:=hv.2 0 (by simp) (by simp);have hx:=hv.2 1 (by simp) (by simp);simp only[List.getElem_cons_zero,List.getElem_cons_succ,List.map_cons,List.map_nil] at hs hx;split at hq
    ·rename_i es' hes
     exact zR H ha hts ho hs (.inl (fE hx hes)) hq
    ·split at hq
     ·rename_i hn
      exact zR H ha hts ho hs (.inr ⟨rfl,fU hx hn⟩) hq
     ·cases hq
   ·cases hq
  ·cases hq
 ·cases hq
end
mutual
/-- An abstract value under other names of the objects. -/
def ren(f:Nat→Option Nat):AV→Option AV
 |.pv p=>some (.pv p)
 |.trows t es=>(f t).map fun t'=>.trows t' es
 |.tsym t i=>(f t).map fun t'=>.tsym t' i
 |.ptr i o=>(f i).map fun i'=>.ptr i' o
 |.cptr cs=>some (.cptr cs)
 |.agg l=>(ku f l).map .agg
 |.tup l=>(ku f l).map .tup
 |.fn g l=>(ku f l).map (.fn g)
 |.sl t lo len sz=>(f t).map fun t'=>.sl t' lo len sz
 |.mp t=>(f t).map .mp
 |.ifc t v=>(ren f v).map (.ifc t)
 |.arr t=>(f t).map .arr
 |.aptr t i o=>(f t).map fun t'=>.aptr t' i o
 |.arv t i q=>(f t).map fun t'=>.arv t' i q
def ku(f:Nat→Option Nat):List AV→Option (List AV)
 |[]=>some []
 |a::l=>match ren f a,ku f l with
  |some b,some r=>some (b::r)
  |_,_=>none
end
theorem iY{f:Nat→Option Nat}:∀{l l':List AV},ku f l=some l'→l'.length=l.length
 |[],l',h=>by rw[ku] at h;cases h;rfl
 |a::l,l',h=>by
  rw[ku] at h;split at h
  ·rename_i b r _ hr
   cases h;simp[iY hr]
  ·cases h
theorem si{f:Nat→Option Nat}:∀{l l':List AV},ku f l=some l'→∀i (h:i<l.length) (h':i<l'.length),ren f l[i]=some l'[i]
 |[],l',h,i,hi,_=>by simp at hi
 |a::l,l',h,i,hi,hi'=>by
  rw[ku] at h;split at h
  ·rename_i b r hb hr
   cases h;cases i with
   |zero=>exact hb
   |succ i=>exact si hr i (by simpa using hi) (by simpa using hi')
  ·cases h
structure Ren(f:Nat→Option Nat)(K K':Kn):Prop where
 M:K'.M=K.M
 Z:K'.Z=K.Z
 E:K'.E=K.E
 R:K'.R=K.R
 mu:∀i j g,f i=some j→K.mu i=some g→K'.mu j=some g
 N:∀i j g,f i=some j→K.mu i=some g→K'.N j=K.N i
theorem rz{f:Nat→Option Nat}{K K':Kn}(R:Ren f K K'){a:AV}{v:Value}(h:VR K a v):∀{b:AV},ren f a=some b→VR K' b v:=by
 induction h with
 |pv h=>intro b hb;rw[ren] at hb;cases hb;exact .pv (by rw[R.M,R.R];exact h)
 |trows t es g us hm hn hsz hc hr=>
  intro b hb;rw[ren] at hb;obtain⟨t',ht',e⟩:=au hb;subst e;have key:=VR.trows (K:=K') t' es g us (R.mu t t' g ht' hm) (by rw[R.Z];exact hn) (by rw[R.E];exact hsz) (by rw[R.E,R.M];exact hc) (by rw[R.M,R.R];exact hr);rw[R.Z] at key;exact key
 |tsym t i es hi _ ih=>
  intro b hb;rw[ren] at hb;obtain⟨t',ht',e⟩:=au hb;subst e;exact .tsym t' i es (by rw[R.R];exact hi) (ih (by rw[ren,ht'];rfl))
 |ptr i o g hm=>
  intro b hb;rw[ren] at hb;obtain⟨t',ht',e⟩:=au hb;subst e;exact .ptr t' o g (R.mu i t' g ht' hm)
 |cptr cs g o us hc hr=>intro b hb;rw[ren] at hb;cases hb;exact .cptr cs g o us (by rw[R.M];exact hc) (by rw[R.M,R.R];exact hr)
 |agg l cs hl _ ih=>
  intro b hb;rw[ren] at hb;obtain⟨l',hl',e⟩:=au hb;subst e;have h1:=iY hl';exact .agg l' cs (by omega) (fun i hi hi'=>ih i (by omega) hi' (si hl' i (by omega) hi))
 |tup l cs hl _ ih=>
  intro b hb;rw[ren] at hb;obtain⟨l',hl',e⟩:=au hb;subst e;have h1:=iY hl';exact .tup l' cs (by omega) (fun i hi hi'=>ih i (by omega) hi' (si hl' i (by omega) hi))
 |fn g l cs hl _ hg ih=>
  intro b hb;rw[ren] at hb;obtain⟨l',hl',e⟩:=au hb;subst e;have h1:=iY hl';exact .fn g l' cs (by omega) (fun i hi hi'=>ih i (by omega) hi' (si hl' i (by omega) hi)) hg
 |bfn f2 g l cs hl _ hg ih=>
  intro b hb;rw[ren] at hb;obtain⟨l',hl',e⟩:=au hb;subst e;have h1:=iY hl';exact .bfn f2 g l' cs (by omega) (fun i hi hi'=>ih i (by omega) hi' (si hl' i (by omega) hi)) hg
 |sl t lo len sz g cap off hm he hl hz hof=>
  intro b hb;rw[ren] at hb;obtain⟨t',ht',e⟩:=au hb;subst e;exact .sl t' lo len sz g cap off (R.mu t t' g ht' hm) (by rw[R.E];exact he) hl (by rw[R.Z];exact hz) hof
 |mp t g hm=>
  intro b hb;rw[ren] at hb;obtain⟨t',ht',e⟩:=au hb;subst e;exact .mp t' g (R.mu t t' g ht' hm)
 |ifc t _ ih=>
  intro b hb;rw[ren] at hb;obtain⟨v',hv',e⟩:=au hb;subst e;exact .ifc t (ih hv')
 |arr t g cap hm hn hz=>
  intro b hb;rw[ren] at hb;obtain⟨t',ht',e⟩:=au hb;subst e;have key:=VR.arr (K:=K') t' g cap (R.mu t t' g ht' hm) (by rw[R.N t t' g ht' hm];exact hn) (by rw[R.Z];exact hz);rw[R.N t t' g ht' hm] at key;exact key
 |aptr t i o g k kd hm hi hk=>
  intro b hb;rw[ren] at hb;obtain⟨t',ht',e⟩:=au hb;subst e;have key:=VR.aptr (K:=K') t' i o g k kd (R.mu t t' g ht' hm) (by rw[R.M,R.R];exact hi) (by rw[R.N t t' g ht' hm];exact hk);rw[R.E] at key;exact key
 |arv t i q g k n cap off kd hm hi hq hn hc hz hof=>
  intro b hb;rw[ren] at hb;obtain⟨t',ht',e⟩:=au hb;subst e;exact .arv t' i q g k n cap off kd (R.mu t t' g ht' hm) (by rw[R.M,R.R];exact hi) (by rw[R.R];exact hq) (by rw[R.N t t' g ht' hm];exact hn) hc (by rw[R.Z];exact hz) (by rw[R.E];exact hof)
theorem mo{f:Nat→Option Nat}{K K':Kn}(R:Ren f K K'){l l':List AV}{cs:List Value}(h:VL K l cs)(hl:ku f l=some l'):VL K' l' cs:=by
 have h1:=iY hl;exact⟨by rw[h1];exact h.1,fun i hi hi'=>rz R (h.2 i (by omega) hi') (si hl i (by omega) hi)⟩
theorem ajv{f:Nat→Option Nat}{a:AV}{q:PV}(h:ren f a=some (.pv q)):a=.pv q:=by
 cases a with
 |pv p=>rw[ren] at h;cases h;rfl
 |cptr cs=>rw[ren] at h;cases h
 |_=>rw[ren] at h;obtain⟨_,_,e⟩:=au h;cases e
theorem Mw(f:Nat→Option Nat):∀l:List PV,ku f (l.map .pv)=some (l.map .pv)
 |[]=>by rw[List.map_nil,ku]
 |c::l=>by rw[List.map_cons,ku,Mw f l,ren]
theorem X4(f:Nat→Option Nat)(c:List PV):YtfphhabaeggenaaGreatDoor.ren f (qW c)=some (qW c):=by
 unfold qW;split
 ·rw[ren]
 ·rw[ren,Mw];rfl
 ·rw[ren]
theorem Ia(f:Nat→Option Nat):∀es:List (List PV),ku f (es.map qW)=some (es.map qW)
 |[]=>by rw[List.map_nil,ku]
 |c::es=>by rw[List.map_cons,ku,Ia f es,X4]
theorem ML.ren{f:Nat→Option Nat}{K K':Kn}(R:Ren f K K'){ks:List Value}{vs vs':List AV}{l:List MapEntry}(h:ML K ks vs l)(hl:ku f vs=some vs'):ML K' ks vs' l:=by
 refine h.go (fun hb=>⟨?_,fun hv=>mo R hv hl⟩) (fun p _ hv=>?_)
 ·cases hs:oW ks vs' with
  |false=>rfl
  |true=>
   unfold oW at hs;split at hs
   ·rename_i q
    have hlen:=iY hl
    match vs,hlen,hl,hb with
    |[a],_,hl,hb=>
     rw[ku] at hl;split at hl
     ·rename_i b r h1 h2
      cases hl;rw[ajv h1] at hb;cases hb
     ·cases hl
   ·cases hs
 ·subst hv
  rw[ku,ku,YtfphhabaeggenaaGreatDoor.ren] at hl;cases hl;exact⟨p,rfl,fun es he=>⟨by rw[R.R];exact he,fun hv=>mo R hv (Ia f es)⟩⟩
def dL(f:Nat→Option Nat):ah→Option ah
 |.box ty cells=>(ku f cells).map (.box ty)
 |.tok ty sz len=>some (.tok ty sz len)
 |.dead=>some .dead
 |.mp ks vs=>(ku f vs).map (.mp ks)
 |.arr ty sz p=>some (.arr ty sz p)
def GN(f:Nat→Option Nat):List ah→Option (List ah)
 |[]=>some []
 |a::l=>match dL f a,GN f l with
  |some b,some r=>some (b::r)
  |_,_=>none
theorem Ec{f:Nat→Option Nat}:∀{l l':List ah},GN f l=some l'→l'.length=l.length
 |[],l',h=>by rw[GN] at h;cases h;rfl
 |a::l,l',h=>by
  rw[GN] at h;split at h
  ·rename_i b r _ hr
   cases h;simp[Ec hr]
  ·cases h
theorem CO{f:Nat→Option Nat}:∀{l l':List ah},GN f l=some l'→∀(i:Nat) y,l'[i]? = some y→∃x,l[i]? = some x∧dL f x=some y
 |[],l',h,i,y,hy=>by rw[GN] at h;cases h;simp at hy
 |a::l,l',h,i,y,hy=>by
  rw[GN] at h;split at h
  ·rename_i b r hb hr
   cases h;cases i with
   |zero=>simp at hy;subst hy;exact⟨a,rfl,hb⟩
   |succ i=>simpa using CO hr i y (by simpa using hy)
  ·cases h
theorem kP{f:Nat→Option Nat}{x y:ah}(h:dL f x=some y):y.live=x.live:=by
 cases x with
 |box ty c=>rw[dL] at h;obtain⟨l',_,e⟩:=au h;subst e;rfl
 |tok=>rw[dL] at h;cases h;rfl
 |dead=>rw[dL] at h;cases h;rfl
 |mp ks vs=>rw[dL] at h;obtain⟨l',_,e⟩:=au h;subst e;rfl
 |arr=>rw[dL] at h;cases h;rfl
def EF(h:List ah):List Nat→Option (List ah)
 |[]=>some []
 |i::l=>match h[i]?,EF h l with
  |some x,some r=>some (x::r)
  |_,_=>none
theorem Ih{h:List ah}:∀{l:List Nat} {r:List ah},EF h l=some r→r.length=l.length
 |[],r,hh=>by cases hh;rfl
 |i::l,r,hh=>by
  rw[EF] at hh;split at hh
  ·rename_i x r' _ hr
   cases hh;simp[Ih hr]
  ·cases hh
theorem Nj{h:List ah}:∀{l:List Nat} {r:List ah},EF h l=some r→∀(k:Nat) x,r[k]? = some x→∃i,l[k]? = some i∧h[i]? = some x
 |[],r,hh,k,x,hx=>by cases hh;simp at hx
 |i::l,r,hh,k,x,hx=>by
  rw[EF] at hh;split at hh
  ·rename_i y r' hy hr
   cases hh;cases k with
   |zero=>simp at hx;subst hx;exact⟨i,rfl,hy⟩
   |succ k=>simpa using Nj hr k x (by simpa using hx)
  ·cases hh
def posOf(i:Nat):List Nat→Option Nat
 |[]=>none
 |x::l=>if x=i then some 0 else(posOf i l).map (· + 1)
theorem xB{i:Nat}:∀{l:List Nat} {j:Nat},posOf i l=some j→l[j]? = some i
 |[],j,h=>by cases h
 |x::l,j,h=>by
  rw[posOf] at h;split at h
  ·rename_i e;cases h;subst e;rfl
  ·obtain⟨k,hk,e⟩:=au h
   subst e;simpa using xB hk
def nodupB:List Nat→Bool
 |[]=>true
 |x::l=>!(l.elem x)&&nodupB l
theorem xE:∀{l:List Nat},nodupB l=true→∀{i j x:Nat},l[i]? = some x→l[j]? = some x→i=j
 |[],_,i,j,x,h,_=>by simp at h
 |y::l,h,i,j,x,hi,hj=>by
  rw[nodupB,Bool.and_eq_true] at h;have hn:∀k:Nat,l[k]? = some y→False:=by
   intro k hk;have:=List.mem_of_getElem? hk;simp[this] at h
  cases i with
  |zero=>
   cases j with
   |zero=>rfl
   |succ j=>simp at hi hj;subst hi;exact(hn j hj).elim
  |succ i=>
   cases j with
   |zero=>simp at hi hj;subst hj;exact(hn i hi).elim
   |succ j=>simp at hi hj;rw[xE h.2 hi hj]
def Kn.sub(K:Kn)(ids:List Nat):Kn:={K with mu:=fun k=>(ids[k]?).bind K.mu,N:=fun k=>match ids[k]? with
 |some i=>K.N i
 |none=>0 }
theorem Vp{K:Kn}{ids:List Nat}{k i:Nat}(h:ids[k]? = some i):(K.sub ids).N k=K.N i:=by
 show (match ids[k]? with|some i=>K.N i|none=>0)=K.N i;rw[h]
theorem P6{K:Kn}{ids:List Nat}{k g:Nat}(h:(K.sub ids).mu k=some g):∃i,ids[k]? = some i∧K.mu i=some g:=by
 change (ids[k]?).bind K.mu=some g at h;cases hi:ids[k]? with
 |none=>rw[hi] at h;cases h
 |some i=>rw[hi] at h;exact⟨i,rfl,h⟩
theorem mF{K:Kn}{ids:List Nat}{k i:Nat}(h:ids[k]? = some i):(K.sub ids).mu k=K.mu i:=by
 show (ids[k]?).bind K.mu=K.mu i;rw[h];rfl
theorem Ren.sub(K:Kn)(ids:List Nat):Ren (fun i=>posOf i ids) K (K.sub ids):=
 ⟨rfl,rfl,rfl,rfl,fun i j g hf hm=>by rw[mF (xB hf)];exact hm,fun i j g hf _=>Vp (xB hf)⟩
def wE(h:List ah)(ids:List Nat):Option (List ah):=match EF h ids with
 |some r=>GN (fun i=>posOf i ids) r
 |none=>none
theorem qY{h:List ah}{ids:List Nat}{hs:List ah}(hh:wE h ids=some hs):hs.length=ids.length∧∀(k:Nat) y,hs[k]? = some y→∃i x,ids[k]? = some i∧h[i]? = some x∧dL (fun i=>posOf i ids) x=some y:=by
 unfold wE at hh;split at hh
 ·rename_i r hr
  refine⟨by rw[Ec hh,Ih hr],fun k y hy=>?_⟩;obtain⟨x,hx,hxy⟩:=CO hh k y hy;obtain⟨i,hi,hix⟩:=Nj hr k x hx;exact⟨i,x,hi,hix,hxy⟩
 ·cases hh
theorem uo{h:List ah}{ids:List Nat}{hs:List ah}(hh:wE h ids=some hs){k i:Nat}(hk:ids[k]? = some i):i<h.length:=by
 obtain⟨hl,hs'⟩:=qY hh;have hlt:k<hs.length:=by
  rw[hl];by_cases hlt:k<ids.length
  ·exact hlt
  ·rw[List.getElem?_eq_none (by omega)] at hk;cases hk
 obtain⟨i',x,hi,hx,_⟩:=hs' k hs[k] (List.getElem?_eq_getElem hlt);rw[hk] at hi;cases hi;by_cases hlt:i<h.length
 ·exact hlt
 ·rw[List.getElem?_eq_none (by omega)] at hx;cases hx
theorem WR.sub{K:Kn}{h:List ah}{w:World}(H:WR K h w){ids:List Nat}{hs:List ah}(hn:nodupB ids=true)(hh:wE h ids=some hs):WR (K.sub ids) hs w:=by
 obtain⟨hl,hsp⟩:=qY hh;have R:=Ren.sub K ids;refine⟨fun k hk=>?_,fun k hk=>?_,fun k g hk=>?_,fun k ty cells hk=>?_,fun k ks vs hk=>?_,fun k ty sz len hk=>?_,fun a b x y g ha hb hlx hly hma hmb=>?_,fun k ty cells g hk hm o=>?_,H.agr,fun k ty sz p hk=>?_⟩
 ·show (ids[k]?).bind K.mu=none
  rw[List.getElem?_eq_none (by omega)];rfl
 ·have hk':k<ids.length:=by omega
  have e:=List.getElem?_eq_getElem hk';obtain⟨g,hg⟩:=H.has _ (uo hh e);exact⟨g,by rw[mF e];exact hg⟩
 ·obtain⟨i,_,hm⟩:=P6 hk
  exact H.lt i g hm
 ·obtain⟨i,x,hi,hx,hxy⟩:=hsp k _ hk
  cases x with
  |box ty' c=>
   rw[dL] at hxy;obtain⟨l',hl',e⟩:=au hxy;cases e;obtain⟨g,cs,hm,hw,hs,hv⟩:=H.box i ty c hx;exact⟨g,cs,by rw[mF hi];exact hm,hw,hs,mo R (by rw[iY hl'];exact hv) hl'⟩
  |tok=>rw[dL] at hxy;cases hxy
  |dead=>rw[dL] at hxy;cases hxy
  |mp=>rw[dL] at hxy;obtain⟨l',hl',e⟩:=au hxy;cases e
  |arr=>rw[dL] at hxy;cases hxy
 ·obtain⟨i,x,hi,hx,hxy⟩:=hsp k _ hk
  cases x with
  |mp ks' vs'=>
   rw[dL] at hxy;obtain⟨l',hl',e⟩:=au hxy;cases e;obtain⟨g,ents,clock,hm,hw,hv⟩:=H.map i ks vs' hx;exact⟨g,ents,clock,by rw[mF hi];exact hm,hw,hv.ren R hl'⟩
  |box ty' c=>rw[dL] at hxy;obtain⟨l',hl',e⟩:=au hxy;cases e
  |tok=>rw[dL] at hxy;cases hxy
  |dead=>rw[dL] at hxy;cases hxy
  |arr=>rw[dL] at hxy;cases hxy
 ·obtain⟨i,x,hi,hx,hxy⟩:=hsp k _ hk
  cases x with
  |box ty' c=>rw[dL] at hxy;obtain⟨l',hl',e⟩:=au hxy;cases e
  |tok ty' sz' len'=>
   rw[dL] at hxy;cases hxy;obtain⟨g,cs,hm,rest⟩:=H.tok i ty sz len hx;exact⟨g,cs,by rw[mF hi];exact hm,rest⟩
  |dead=>rw[dL] at hxy;cases hxy
  |mp=>rw[dL] at hxy;obtain⟨l',hl',e⟩:=au hxy;cases e
  |arr=>rw[dL] at hxy;cases hxy
 ·obtain⟨i,x',hi,hx,hxy⟩:=hsp a _ ha
  obtain⟨j,y',hj,hy,hyy⟩:=hsp b _ hb;rw[mF hi] at hma;rw[mF hj] at hmb;have:=H.inj i j x' y' g hx hy (by rw[←kP hxy];exact hlx) (by rw[←kP hyy];exact hly) hma hmb;subst this;exact xE hn hi hj
 ·obtain⟨i,x,hi,hx,hxy⟩:=hsp k _ hk
  rw[mF hi] at hm;cases x with
  |box ty' c=>exact H.apart i ty' c g hx hm o
  |tok=>rw[dL] at hxy;cases hxy
  |dead=>rw[dL] at hxy;cases hxy
  |mp=>rw[dL] at hxy;obtain⟨l',hl',e⟩:=au hxy;cases e
  |arr=>rw[dL] at hxy;cases hxy
 ·obtain⟨i,x,hi,hx,hxy⟩:=hsp k _ hk
  cases x with
  |box ty' c=>rw[dL] at hxy;obtain⟨l',hl',e⟩:=au hxy;cases e
  |tok=>rw[dL] at hxy;cases hxy
  |dead=>rw[dL] at hxy;cases hxy
  |mp=>rw[dL] at hxy;obtain⟨l',hl',e⟩:=au hxy;cases e
  |arr ty' sz' p'=>
   rw[dL] at hxy;cases hxy;obtain⟨g,cs,hm,hw,hs,ha⟩:=H.arr i ty sz p hx;exact⟨g,cs,by rw[mF hi];exact hm,hw,hs,ha.go ha.none rfl (Vp hi) rfl rfl (fun _ _ _ h=>h)⟩
theorem vV{K:Kn}{h:List ah}{ids:List Nat}{hs:List ah}(hh:wE h ids=some hs){b:Nat}(hb:(K.sub ids).liveB hs b):∃(k i:Nat) (x:ah),ids[k]? = some i∧h[i]? = some x∧x.live=true∧K.mu i=some b:=by
 obtain⟨k,y,hk,hl,hm⟩:=hb;obtain⟨i,x,hi,hx,hxy⟩:=(qY hh).2 k y hk;exact⟨k,i,x,hi,hx,by rw[←kP hxy];exact hl,by rw[mF hi] at hm;exact hm⟩
theorem Step.sub{K K':Kn}{h h':List ah}{w w':World}(H:WR K h w)(S:Step K h w K' h' w'){ids:List Nat}{hs:List ah}(hn:nodupB ids=true)(hh:wE h' ids=some hs)
  (hpre:∀k,k<h.length→ids[k]? = some k):Step K h w (K'.sub ids) hs w':=by
 have hlen:h.length≤ids.length:=by
  cases hl:h.length with
  |zero=>omega
  |succ n=>
   have:=hpre n (by omega);by_cases hlt:n<ids.length
   ·omega
   ·rw[List.getElem?_eq_none (by omega)] at this;cases this
 have hsl:=(qY hh).1;have hdef:∀i g,K.mu i=some g→i<h.length:=by
  intro i g hi;by_cases hlt:i<h.length
  ·exact hlt
  ·rw[H.fresh i (by omega)] at hi;cases hi
 refine⟨S.wr.sub hn hh,⟨S.ext.M,fun i g hi=>?_,S.ext.Z,S.ext.E,S.ext.R,fun i g hi=>by rw[Vp (hpre i (hdef i g hi))];exact S.ext.N i g hi⟩,S.frm,S.zs,S.ms,fun k b hk=>?_,fun b hb hlt=>?_,by omega⟩
 ·rw[mF (hpre i (hdef i g hi))];exact S.ext.mu i g hi
 ·obtain⟨i,hi,hm⟩:=P6 hk
  rcases S.mu i b hm with h1|h1
  ·have:=xE hn hi (hpre i (hdef i b h1))
   subst this;exact .inl h1
  ·exact .inr h1
 ·obtain⟨k,i,x,hi,hx,hl,hm⟩:=vV hh hb
  exact S.live b ⟨i,x,hx,hl,hm⟩ hlt
def overlay(h:List ah):List Nat→List ah→List ah
 |i::ids,x::l=>overlay (h.set i x) ids l
 |_,_=>h
theorem ni:∀(ids:List Nat) (l:List ah) (h:List ah),(overlay h ids l).length=h.length
 |[],l,h=>by simp[overlay]
 |i::ids,[],h=>by simp[overlay]
 |i::ids,x::l,h=>by rw[overlay,ni ids l];simp
theorem EJ:∀(ids:List Nat) (l:List ah) (h:List ah),nodupB ids=true→ids.length≤l.length→∀(i:Nat) y,(overlay h ids l)[i]? = some y→
  (∃k:Nat,ids[k]? = some i∧l[k]? = some y)∨((∀k:Nat,ids[k]?≠some i)∧h[i]? = some y)
 |[],l,h,_,_,i,y,hy=>by
  have e:overlay h [] l=h:=by simp[overlay]
  rw[e] at hy;exact .inr ⟨fun k=>by simp,hy⟩
 |j::ids,[],h,_,hl,i,y,hy=>by simp at hl
 |j::ids,x::l,h,hn,hl,i,y,hy=>by
  rw[overlay] at hy;have hn2:=hn;rw[nodupB,Bool.and_eq_true] at hn2;rcases EJ ids l (h.set j x) hn2.2 (by simpa using hl) i y hy with⟨k,h1,h2⟩|⟨h1,h2⟩
  ·exact .inl ⟨k+1,by simpa using h1,by simpa using h2⟩
  ·rw[List.getElem?_set] at h2
   by_cases e:j=i
   ·subst e
    rw[if_pos rfl] at h2;split at h2
    ·cases h2;exact .inl ⟨0,rfl,rfl⟩
    ·cases h2
   ·rw[if_neg e] at h2
    refine .inr ⟨fun k=>?_,h2⟩;cases k with
    |zero=>simpa using e
    |succ k=>simpa using h1 k
def wT(ids:List Nat)(n:Nat)(k:Nat):Option Nat:=match ids[k]? with
 |some i=>some i
 |none=>some (n+(k-ids.length))
def Kn.merge(K Ks:Kn)(ids:List Nat)(n:Nat):Kn:={Ks with mu:=fun i=>if i<n then K.mu i else Ks.mu (ids.length+(i-n)),N:=fun i=>if i<n then K.N i else Ks.N (ids.length+(i-n)) }
def Ap(h:List ah)(ids:List Nat)(hs':List ah):Option (List ah):=match GN (wT ids h.length) hs' with
 |some hb=>some (overlay h ids hb++hb.drop ids.length)
 |none=>none
theorem uP{K Ks:Kn}{h hs hs' h':List ah}{w w':World}{ids:List Nat}(H:WR K h w)(hn:nodupB ids=true)(hh:wE h ids=some hs)(S:Step (K.sub ids) hs w Ks hs' w')(hm:Ap h ids hs'=some h') :
  Step K h w (K.merge Ks ids h.length) h' w'∧Ren (wT ids h.length) Ks (K.merge Ks ids h.length)∧jv (K.at h ids) w w':=by
 unfold Ap at hm;split at hm
 ·rename_i hb hrb
  cases hm;have hsl:=(qY hh).1;have hbl:=Ec hrb;have hle:=S.len;have hmu1:∀i,i<h.length→(K.merge Ks ids h.length).mu i=K.mu i:=fun i hi=>by show (if i<h.length then _ else _)=_;rw[if_pos hi]
  have hmu2:∀i,h.length≤i→(K.merge Ks ids h.length).mu i=Ks.mu (ids.length+(i-h.length)):=fun i hi=>by show (if i<h.length then _ else _)=_;rw[if_neg (by omega)]
  have hN1:∀i,i<h.length→(K.merge Ks ids h.length).N i=K.N i:=fun i hi=>by show (if i<h.length then _ else _)=_;rw[if_pos hi]
  have hN2:∀i,h.length≤i→(K.merge Ks ids h.length).N i=Ks.N (ids.length+(i-h.length)):=fun i hi=>by show (if i<h.length then _ else _)=_;rw[if_neg (by omega)]
  have hold:∀k i,ids[k]? = some i→∃g,K.mu i=some g∧Ks.mu k=some g:=by
   intro k i hk;obtain⟨g,hg⟩:=H.has i (uo hh hk);exact⟨g,hg,S.ext.mu k g (by rw[mF hk];exact hg)⟩
  have holdN:∀k i,ids[k]? = some i→Ks.N k=K.N i:=by
   intro k i hk;obtain⟨g,hg⟩:=H.has i (uo hh hk);rw[←Vp hk];exact S.ext.N k g (by rw[mF hk];exact hg)
  have R:Ren (wT ids h.length) Ks (K.merge Ks ids h.length):=by
   refine⟨rfl,rfl,rfl,rfl,fun k j g hf hg=>?_,fun k j g hf hg=>?_⟩
   rotate_left
   ·unfold wT at hf
    split at hf
    ·rename_i i hi
     cases hf;rw[hN1 j (uo hh hi)];exact(holdN k j hi).symm
    ·rename_i hi
     cases hf;have hkl:ids.length≤k:=by
      by_cases hlt:k<ids.length
      ·rw[List.getElem?_eq_getElem hlt] at hi;cases hi
      ·omega
     rw[hN2 _ (by omega),show ids.length+(h.length+(k-ids.length)-h.length)=k by omega]
   unfold wT at hf;split at hf
   ·rename_i i hi
    cases hf;obtain⟨g',h1,h2⟩:=hold k j hi;rw[hg] at h2;cases h2;rw[hmu1 j (uo hh hi)];exact h1
   ·rename_i hi
    cases hf;have hkl:ids.length≤k:=by
     by_cases hlt:k<ids.length
     ·rw[List.getElem?_eq_getElem hlt] at hi;cases hi
     ·omega
    rw[hmu2 _ (by omega),show ids.length+(h.length+(k-ids.length)-h.length)=k by omega];exact hg
  have hX:Ext K (K.merge Ks ids h.length):=by
   refine⟨S.ext.M,fun i g hi=>?_,fun i g hi=>(S.zs g (H.lt i g hi)).1,fun i g hi=>(S.zs g (H.lt i g hi)).2,S.ext.R,fun i g hi=>?_⟩
   rotate_left
   ·have hil:i<h.length:=by
     by_cases hlt:i<h.length
     ·exact hlt
     ·rw[H.fresh i (by omega)] at hi;cases hi
    exact hN1 i hil
   have hil:i<h.length:=by
    by_cases hlt:i<h.length
    ·exact hlt
    ·rw[H.fresh i (by omega)] at hi;cases hi
   rw[hmu1 i hil];exact hi
  have hfar:∀i x g,h[i]? = some x→x.live=true→K.mu i=some g→(∀k:Nat,ids[k]?≠some i)→¬(K.sub ids).liveB hs g:=by
   intro i x g hx hl hg hni hlb;obtain⟨k,j,y,hj,hy,hly,hmj⟩:=vV hh hlb;have:=H.inj i j x y g hx hy hl hly hg hmj;subst this;exact hni k hj
  have hcase:∀(i:Nat) y,(overlay h ids hb++hb.drop ids.length)[i]? = some y→
    (∃k x,hs'[k]? = some x∧dL (wT ids h.length) x=some y∧(K.merge Ks ids h.length).mu i=Ks.mu k∧((i<h.length∧ids[k]? = some i)∨(h.length≤i∧k=ids.length+(i-h.length))))∨
    (i<h.length∧(∀k:Nat,ids[k]?≠some i)∧h[i]? = some y):=by
   intro i y hy;by_cases hil:i<h.length
   ·rw[List.getElem?_append_left (by rw[ni];exact hil)] at hy
    rcases EJ ids hb h hn (by omega) i y hy with⟨k,h1,h2⟩|⟨h1,h2⟩
    ·obtain⟨x,hx,hxy⟩:=CO hrb k y h2
     obtain⟨g,g1,g2⟩:=hold k i h1;exact .inl ⟨k,x,hx,hxy,by rw[hmu1 i hil,g1,g2],.inl ⟨hil,h1⟩⟩
    ·exact .inr ⟨hil,h1,h2⟩
   ·rw[List.getElem?_append_right (by rw[ni];omega),ni,List.getElem?_drop] at hy
    obtain⟨x,hx,hxy⟩:=CO hrb _ y hy;exact .inl ⟨_,x,hx,hxy,hmu2 i (by omega),.inr ⟨by omega,rfl⟩⟩
  have hlb:∀b,(K.sub ids).liveB hs b→K.liveB h b:=by
   intro b hlb;obtain⟨k,j,y,hj,hy,hly,hmj⟩:=vV hh hlb;exact⟨j,y,hy,hly,hmj⟩
  have hlen':(overlay h ids hb++hb.drop ids.length).length=h.length+(hs'.length-ids.length):=by simp[ni,hbl]
  have hwr:WR (K.merge Ks ids h.length) (overlay h ids hb++hb.drop ids.length) w':=by
   refine⟨fun i hi=>?_,fun i hi=>?_,fun i g hi=>?_,fun i ty cells hi=>?_,fun i ks vs hi=>?_,fun i ty sz len hi=>?_,fun i j x y g hi hj hlx hly hmi hmj=>?_,fun i ty cells g hi hm o=>?_,S.wr.agr,fun i ty sz p hi=>?_⟩
   ·rw[hmu2 i (by omega)];exact S.wr.fresh _ (by omega)
   ·by_cases hil:i<h.length
    ·rw[hmu1 i hil];exact H.has i hil
    ·rw[hmu2 i (by omega)];exact S.wr.has _ (by omega)
   ·by_cases hil:i<h.length
    ·rw[hmu1 i hil] at hi;have:=H.lt i g hi;have:=S.frm.size;omega
    ·rw[hmu2 i (by omega)] at hi;exact S.wr.lt _ g hi
   ·rcases hcase i _ hi with⟨k,x,hx,hxy,hmk,_⟩|⟨hil,hni,hx⟩
    ·cases x with
     |box ty' c=>
      rw[dL] at hxy;obtain⟨l',hl',e⟩:=au hxy;cases e;obtain⟨g,cs,hm,hw,hs1,hv⟩:=S.wr.box k ty c hx;exact⟨g,cs,by rw[hmk];exact hm,hw,hs1,mo R (by rw[iY hl'];exact hv) hl'⟩
     |tok=>rw[dL] at hxy;cases hxy
     |dead=>rw[dL] at hxy;cases hxy
     |mp=>rw[dL] at hxy;obtain⟨l',hl',e⟩:=au hxy;cases e
     |arr=>rw[dL] at hxy;cases hxy
    ·obtain⟨g,cs,hm,hw,hs1,hv⟩:=H.box i ty cells hx
     refine⟨g,cs,hX.mu i g hm,?_,?_,hv.mono hX⟩
     ·rw[S.frm.block g (H.lt i g hm) (hfar i _ g hx rfl hm hni)];exact hw
     ·rw[hX.Z i g hm,hX.E i g hm];exact hs1
   ·rcases hcase i _ hi with⟨k,x,hx,hxy,hmk,_⟩|⟨hil,hni,hx⟩
    ·cases x with
     |mp ks' vs'=>
      rw[dL] at hxy;obtain⟨l',hl',e⟩:=au hxy;cases e;obtain⟨g,ents,clock,hm,hw,hv⟩:=S.wr.map k ks vs' hx;exact⟨g,ents,clock,by rw[hmk];exact hm,hw,hv.ren R hl'⟩
     |box ty' c=>rw[dL] at hxy;obtain⟨l',hl',e⟩:=au hxy;cases e
     |tok=>rw[dL] at hxy;cases hxy
     |dead=>rw[dL] at hxy;cases hxy
     |arr=>rw[dL] at hxy;cases hxy
    ·obtain⟨g,ents,clock,hm,hw,hv⟩:=H.map i ks vs hx
     refine⟨g,ents,clock,hX.mu i g hm,?_,hv.mono hX⟩;rw[S.frm.block g (H.lt i g hm) (hfar i _ g hx rfl hm hni)];exact hw
   ·rcases hcase i _ hi with⟨k,x,hx,hxy,hmk,_⟩|⟨hil,hni,hx⟩
    ·cases x with
     |box ty' c=>rw[dL] at hxy;obtain⟨l',hl',e⟩:=au hxy;cases e
     |tok ty' sz' len'=>
      rw[dL] at hxy;cases hxy;obtain⟨g,cs,hm,rest⟩:=S.wr.tok k ty sz len hx;exact⟨g,cs,by rw[hmk];exact hm,rest⟩
     |dead=>rw[dL] at hxy;cases hxy
     |mp=>rw[dL] at hxy;obtain⟨l',hl',e⟩:=au hxy;cases e
     |arr=>rw[dL] at hxy;cases hxy
    ·obtain⟨g,cs,hm,hw,h3,h4,h5,h6⟩:=H.tok i ty sz len hx
     have hgl:=H.lt i g hm;have hnl:=hfar i _ g hx rfl hm hni;refine⟨g,cs,hX.mu i g hm,?_,?_,?_,?_,fun o ho=>?_⟩
     ·rw[S.frm.block g hgl hnl];exact hw
     ·rw[hX.Z i g hm];exact h3
     ·rw[hX.E i g hm];exact h4
     ·rw[hX.Z i g hm];exact h5
     ·show Ks.M g o=none
      rw[S.ms g o hgl hnl];rw[hX.R] at ho;exact h6 o ho
   ·rcases hcase i _ hi with⟨k,x',hx,hxy,hmk,hk⟩|⟨hil,hni,hx⟩
    ·rcases hcase j _ hj with⟨l,y',hy,hyy,hml,hl⟩|⟨hjl,hnj,hy⟩
     ·rw[hmk] at hmi
      rw[hml] at hmj;have:=S.wr.inj k l x' y' g hx hy (by rw[←kP hxy];exact hlx) (by rw[←kP hyy];exact hly) hmi hmj;subst this;rcases hk with⟨h1,h2⟩|⟨h1,h2⟩
      ·rcases hl with⟨h3,h4⟩|⟨h3,h4⟩
       ·rw[h2] at h4;exact Option.some.inj h4
       ·rw[List.getElem?_eq_none (by omega)] at h2;cases h2
      ·rcases hl with⟨h3,h4⟩|⟨h3,h4⟩
       ·rw[List.getElem?_eq_none (by omega)] at h4;cases h4
       ·omega
     ·exfalso
      rw[hmu1 j hjl] at hmj;rw[hmk] at hmi;exact hfar j y g hy hly hmj hnj (S.live g ⟨k,x',hx,by rw[←kP hxy];exact hlx,hmi⟩ (H.lt j g hmj))
    ·rw[hmu1 i hil] at hmi
     rcases hcase j _ hj with⟨l,y',hy,hyy,hml,hl⟩|⟨hjl,hnj,hy⟩
     ·exfalso
      rw[hml] at hmj;exact hfar i x g hx hlx hmi hni (S.live g ⟨l,y',hy,by rw[←kP hyy];exact hly,hmj⟩ (H.lt i g hmi))
     ·rw[hmu1 j hjl] at hmj
      exact H.inj i j x y g hx hy hlx hly hmi hmj
   ·rcases hcase i _ hi with⟨k,x,hx,hxy,hmk,_⟩|⟨hil,hni,hx⟩
    ·rw[hmk] at hm
     cases x with
     |box ty' c=>exact S.wr.apart k ty' c g hx hm o
     |tok=>rw[dL] at hxy;cases hxy
     |dead=>rw[dL] at hxy;cases hxy
     |mp=>rw[dL] at hxy;obtain⟨l',hl',e⟩:=au hxy;cases e
     |arr=>rw[dL] at hxy;cases hxy
    ·rw[hmu1 i hil] at hm
     show Ks.M g o=none;rw[S.ms g o (H.lt i g hm) (hfar i _ g hx rfl hm hni)];exact H.apart i ty cells g hx hm o
   ·rcases hcase i _ hi with⟨k,x,hx,hxy,hmk,hk⟩|⟨hil,hni,hx⟩
    ·cases x with
     |box ty' c=>rw[dL] at hxy;obtain⟨l',hl',e⟩:=au hxy;cases e
     |tok=>rw[dL] at hxy;cases hxy
     |dead=>rw[dL] at hxy;cases hxy
     |mp=>rw[dL] at hxy;obtain⟨l',hl',e⟩:=au hxy;cases e
     |arr ty' sz' p'=>
      rw[dL] at hxy;cases hxy;obtain⟨g,cs,hm,hw,hs1,ha⟩:=S.wr.arr k ty sz p hx;refine⟨g,cs,by rw[hmk];exact hm,hw,hs1,ha.go ha.none rfl ?_ rfl rfl (fun _ _ _ h=>h)⟩;rcases hk with⟨h1,h2⟩|⟨h1,h2⟩
      ·rw[hN1 i h1];exact(holdN k i h2).symm
      ·rw[hN2 i h1,h2]
    ·obtain⟨g,cs,hm,hw,hs1,ha⟩:=H.arr i ty sz p hx
     have hgl:=H.lt i g hm;have hnl:=hfar i _ g hx rfl hm hni;refine⟨g,cs,hX.mu i g hm,?_,?_,ha.go (fun o=>?_) ?_ (hN1 i hil) (hX.Z i g hm) (hX.E i g hm) (fun _ _ _ h=>h.ext hX)⟩
     ·rw[S.frm.block g hgl hnl];exact hw
     ·rw[hX.Z i g hm,hX.E i g hm];exact hs1
     ·show Ks.M g o=none
      rw[S.ms g o hgl hnl];exact ha.none o
     ·rw[hX.R]
  refine⟨⟨hwr,hX,S.frm.mono (fun b _ hb=>hlb b hb),S.zs,fun g o hg hnl=>S.ms g o hg (fun h=>hnl (hlb g h)),fun k b hk=>?_,fun b hb hlt=>?_,by rw[hlen'];omega⟩,R,S.frm.mono (fun b _ hb=>?_)⟩
  ·by_cases hkl:k<h.length
   ·rw[hmu1 k hkl] at hk;exact .inl hk
   ·rw[hmu2 k (by omega)] at hk
    rcases S.mu _ b hk with h1|h1|h1
    ·obtain⟨i,hi,_⟩:=P6 h1
     rw[List.getElem?_eq_none (by omega)] at hi;cases hi
    ·exact .inr (.inl h1)
    ·exact .inr (.inr (hlb b h1))
  ·obtain⟨i,y,hi,hl,hmi⟩:=hb
   rcases hcase i _ hi with⟨k,x,hx,hxy,hmk,_⟩|⟨hil,hni,hx⟩
   ·rw[hmk] at hmi
    exact hlb b (S.live b ⟨k,x,hx,by rw[←kP hxy];exact hl,hmi⟩ hlt)
   ·rw[hmu1 i hil] at hmi
    exact⟨i,y,hx,hl,hmi⟩
  ·obtain⟨k,j,y,hj,hy,hly,hmj⟩:=vV hh hb
   exact⟨j,y,List.mem_of_getElem? hj,hy,hly,hmj⟩
 ·cases hm
end Go.Proofs.YtfphhabaeggenaaGreatDoor
