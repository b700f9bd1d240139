/- Joined texts. -/
import Derived.Below
import Derived.OrdersHeld
import Derived.Laws.AppendOwn
import Derived.Laws.Cells
import Derived.Laws.CopyRow
import Derived.Great.BuildSlice
import Derived.Deep.AppendLies
import Derived.Laws.Tables
import Derived.Laws.Strings
set_option linter.unusedVariables false
set_option linter.unusedSimpArgs false
set_option linter.unusedSectionVars false
namespace Go.Proofs.YtijcobeebaceoaaGreatDoor
def ama:Nat→Option (List Value):=fun _=>none
end Go.Proofs.YtijcobeebaceoaaGreatDoor
namespace Go.Proofs.YtijcobeebaceoaaGreatDoor
def pJ:Value→Bool
 |.bool _ | .int _ _ | .float _ _ | .string _ | .nilFunc | .nilIface=>true
 |.pointer none | .map none | .chan none=>true
 |.slice _ 0 _=>true
 |_=>false
inductive PV where
 |lit (v:Value)
 |rows (es:List (List PV))
 |opq (ne:List ByteArray) (lo hi:Nat)
 |rng (lo hi:Nat)
 |sym (i:Nat)
 |any
inductive AV where
 |pv (p:PV)
 |trows (t:Nat) (es:List (List PV))
 |tsym (t i:Nat)
 |ptr (i o:Nat)
 |cptr (cs:List PV)
 |agg (l:List AV)
 |tup (l:List AV)
 |fn (f:Nat) (caps:List AV)
 |sl (t lo len sz:Nat)
 |ifc (t:TypeId) (v:AV)
 |arr (t:Nat)
 |aptr (t:Nat) (i:PV) (o:Nat)
inductive af where
 |box (ty:TypeId) (cells:List AV)
 |tok (ty:TypeId) (sz len:Nat)
 |dead
 |arr (ty:TypeId) (sz:Nat) (p:PV)
structure Kn where
 M:Nat→Nat→Option Value
 Z:Nat→Nat
 E:Nat→Nat
 mu:Nat→Option Nat
 R:Nat→PV
 N:Nat→Nat
 gl:∀(b:Nat) (cs:List Value),ama b=some cs→∀(i:Nat) (v:Value),cs[i]? = some v→M b i=some v
inductive PR(R:Nat→PV)(M:Nat→Nat→Option Value):PV→Value→Prop where
 |lit (v:Value) (h:pJ v=true):PR R M (.lit v) v
 |rows (es:List (List PV)) (a:Option Addr) (cap g off sz:Nat) (us:Nat→Nat→Value)
   (ha:es≠[]→a=some ⟨g,off,none⟩) (hn:es.length≤cap)
   (hsz:∀i (h:i<es.length),es[i].length=sz)
   (hc:∀i,i<es.length→∀j,j<sz→M g (off+i*sz+j)=some (us i j))
   (hr:∀i (h:i<es.length) j (hj:j<es[i].length),PR R M es[i][j] (us i j)) :
   PR R M (.rows es) (.slice a es.length cap)
 |opq (ne:List ByteArray) (lo hi:Nat) (s:ByteArray) (hne:∀x,x∈ne→s.data.toList≠x.data.toList) (hlo:lo≤s.size) (hhi:s.size≤hi):PR R M (.opq ne lo hi) (.string s)
 |rng (lo hi:Nat) (n:Int) (hlo:(lo:Int)≤n) (hhi:n≤(hi:Int)):PR R M (.rng lo hi) (.int .i64 n)
 |sym (i:Nat) (v:Value) (h:PR R M (R i) v):PR R M (.sym i) v
 |any (v:Value) (h:v.oneCell'=true):PR R M .any v
inductive RL(R:Nat→PV):PV→Nat→Prop where
 |rows (es:List (List PV)):RL R (.rows es) es.length
 |sym (i n:Nat) (h:RL R (R i) n):RL R (.sym i) n
def EH:Nat:=1099511627776
inductive VR(K:Kn):AV→Value→Prop where
 |pv {p:PV} {v:Value} (h:PR K.R K.M p v):VR K (.pv p) v
 |trows (t:Nat) (es:List (List PV)) (g:Nat) (us:Nat→Nat→Value) (hm:K.mu t=some g) (hn:es.length≤K.Z g)
   (hsz:∀i (h:i<es.length),es[i].length=K.E g)
   (hc:∀i,i<es.length→∀j,j<K.E g→K.M g (i*K.E g+j)=some (us i j))
   (hr:∀i (h:i<es.length) j (hj:j<es[i].length),PR K.R K.M es[i][j] (us i j)) :
   VR K (.trows t es) (.slice (some ⟨g,0,none⟩) es.length (K.Z g))
 |tsym (t i:Nat) (es:List (List PV)) (hi:K.R i=.rows es) {v:Value} (h:VR K (.trows t es) v):VR K (.tsym t i) v
 |ptr (i o g:Nat) (hm:K.mu i=some g):VR K (.ptr i o) (.pointer (some ⟨g,o,none⟩))
 |cptr (cs:List PV) (g o:Nat) (us:Nat→Value) (hc:∀j,j<cs.length→K.M g (o+j)=some (us j))
   (hr:∀j (h:j<cs.length),PR K.R K.M cs[j] (us j)):VR K (.cptr cs) (.pointer (some ⟨g,o,none⟩))
 |agg (l:List AV) (cs:List Value) (hl:l.length=cs.length) (h:∀i (h:i<l.length) (h':i<cs.length),VR K l[i] cs[i]):VR K (.agg l) (.agg cs.toArray)
 |tup (l:List AV) (cs:List Value) (hl:l.length=cs.length) (h:∀i (h:i<l.length) (h':i<cs.length),VR K l[i] cs[i]):VR K (.tup l) (.tuple cs.toArray)
 |fn (f:Nat) (l:List AV) (cs:List Value) (hl:l.length=cs.length) (h:∀i (h:i<l.length) (h':i<cs.length),VR K l[i] cs[i]) (hb:f<EH):VR K (.fn f l) (.func (.func f) #[] cs.toArray)
 |bfn (f g:Nat) (l:List AV) (cs:List Value) (hl:l.length=cs.length) (h:∀i (h:i<l.length) (h':i<cs.length),VR K l[i] cs[i]) (hg:g=f+EH):VR K (.fn g l) (.func (.func f) cs.toArray #[])
 |sl (t lo len sz g cap off:Nat) (hm:K.mu t=some g) (he:K.E g=sz) (hl:len≤cap) (hz:lo+cap≤K.Z g) (hof:0<cap→off=lo*sz):VR K (.sl t lo len sz) (.slice (some ⟨g,off,none⟩) len cap)
 |ifc (t:TypeId) {v:AV} {u:Value} (h:VR K v u):VR K (.ifc t v) (.iface t u)
 |arr (t g cap:Nat) (hm:K.mu t=some g) (hn:K.N t≤cap) (hz:cap≤K.Z g):VR K (.arr t) (.slice (some ⟨g,0,none⟩) (K.N t) cap)
 |aptr (t:Nat) (i:PV) (o g k:Nat) (kd:IntKind) (hm:K.mu t=some g) (hi:PR K.R K.M i (.int kd k)) (hk:k<K.N t):VR K (.aptr t i o) (.pointer (some ⟨g,k*K.E g+o,none⟩))
def VL(K:Kn)(l:List AV)(cs:List Value):Prop:=l.length=cs.length∧∀i (_:i<l.length) (_:i<cs.length),VR K l[i] cs[i]
structure Ext(K K':Kn):Prop where
 M:∀g o v,K.M g o=some v→K'.M g o=some v
 mu:∀i g,K.mu i=some g→K'.mu i=some g
 Z:∀i g,K.mu i=some g→K'.Z g=K.Z g
 E:∀i g,K.mu i=some g→K'.E g=K.E g
 R:K'.R=K.R
 N:∀i g,K.mu i=some g→K'.N i=K.N i
theorem Ext.refl(K:Kn):Ext K K:=⟨fun _ _ _ h=>h,fun _ _ h=>h,fun _ _ _=>rfl,fun _ _ _=>rfl,rfl,fun _ _ _=>rfl⟩
theorem Ext.trans{K K' K'':Kn}(h:Ext K K')(h':Ext K' K''):Ext K K'':=
 ⟨fun g o v hh=>h'.M g o v (h.M g o v hh),fun i g hh=>h'.mu i g (h.mu i g hh),fun i g hh=>(h'.Z i g (h.mu i g hh)).trans (h.Z i g hh),fun i g hh=>(h'.E i g (h.mu i g hh)).trans (h.E i g hh),h'.R.trans h.R,fun i g hh=>(h'.N i g (h.mu i g hh)).trans (h.N i g hh)⟩
theorem PR.mono{R:Nat→PV}{M M':Nat→Nat→Option Value}(hM:∀g o v,M g o=some v→M' g o=some v){p:PV}{v:Value}(h:PR R M p v):PR R M' p v:=by
 induction h with
 |lit v h=>exact .lit v h
 |rows es a cap g off sz us ha hn hsz hc _ ih=>exact .rows es a cap g off sz us ha hn hsz (fun i hi j hj=>hM _ _ _ (hc i hi j hj)) ih
 |opq ne lo hi s hne hlo hhi=>exact .opq ne lo hi s hne hlo hhi
 |rng lo hi n hlo hhi=>exact .rng lo hi n hlo hhi
 |sym i v _ ih=>exact .sym i v ih
 |any v h=>exact .any v h
theorem PR.ext{K K':Kn}(e:Ext K K'){p:PV}{v:Value}(h:PR K.R K.M p v):PR K'.R K'.M p v:=by rw[e.R];exact h.mono e.M
theorem VR.mono{K K':Kn}(e:Ext K K'){a:AV}{v:Value}(h:VR K a v):VR K' a v:=by
 induction h with
 |pv h=>exact .pv (h.ext e)
 |trows t es g us hm hn hsz hc hr=>
  have hz:=e.Z t g hm;have he:=e.E t g hm;rw[←hz];refine .trows t es g us (e.mu t g hm) (by rw[hz];exact hn) (by rw[he];exact hsz) (fun i hi j hj=>?_) (fun i hi j hj=>(hr i hi j hj).ext e);rw[he] at hj ⊢;exact e.M _ _ _ (hc i hi j hj)
 |tsym t i es hi _ ih=>exact .tsym t i es (by rw[e.R];exact hi) ih
 |ptr i o g hm=>exact .ptr i o g (e.mu i g hm)
 |cptr cs g o us hc hr=>exact .cptr cs g o us (fun j hj=>e.M _ _ _ (hc j hj)) (fun j hj=>(hr j hj).ext e)
 |agg l cs hl _ ih=>exact .agg l cs hl ih
 |tup l cs hl _ ih=>exact .tup l cs hl ih
 |fn f l cs hl _ hb ih=>exact .fn f l cs hl ih hb
 |bfn f g l cs hl _ hg ih=>exact .bfn f g l cs hl ih hg
 |sl t lo len sz g cap off hm he hl hz hof=>exact .sl t lo len sz g cap off (e.mu t g hm) ((e.E t g hm).trans he) hl (by rw[e.Z t g hm];exact hz) hof
 |ifc t _ ih=>exact .ifc t ih
 |arr t g cap hm hn hz=>
  have:=VR.arr (K:=K') t g cap (e.mu t g hm) (by rw[e.N t g hm];exact hn) (by rw[e.Z t g hm];exact hz);rw[e.N t g hm] at this;exact this
 |aptr t i o g k kd hm hi hk=>
  have:=VR.aptr (K:=K') t i o g k kd (e.mu t g hm) (hi.ext e) (by rw[e.N t g hm];exact hk);rw[e.E t g hm] at this;exact this
theorem VL.mono{K K':Kn}(e:Ext K K'){l:List AV}{cs:List Value}(h:VL K l cs):VL K' l cs:=⟨h.1,fun i hi hi'=>(h.2 i hi hi').mono e⟩
theorem PR.one{R:Nat→PV}{M:Nat→Nat→Option Value}{p:PV}{v:Value}(h:PR R M p v):v.oneCell'=true:=by
 induction h with
 |lit v h=>cases v<;>first|rfl|simp[pJ] at h
 |rows=>rfl
 |opq=>rfl
 |rng=>rfl
 |sym _ _ _ ih=>exact ih
 |any _ h=>exact h
def AV.isCell:AV→Bool
 |.agg _ | .tup _=>false
 |_=>true
theorem VR.one{K:Kn}{a:AV}{v:Value}(h:VR K a v)(hc:a.isCell=true):v.oneCell'=true:=by
 cases h with
 |pv h=>exact h.one
 |agg=>cases hc
 |tup=>cases hc
 |trows=>rfl
 |tsym t i es hi h=>cases h;rfl
 |ptr=>rfl
 |cptr=>rfl
 |fn=>rfl
 |bfn=>rfl
 |sl=>rfl
 |ifc=>rfl
 |arr=>rfl
 |aptr=>rfl
def AV.cells:AV→List AV
 |.agg l=>l
 |v=>[v]
theorem VL.single{K:Kn}{a:AV}{v:Value}(h:VR K a v):VL K [a] [v]:=⟨rfl,fun i hi hi'=>by
 have:i=0:=by simp at hi;exact hi
 subst this;exact h⟩
theorem VR.cells{K:Kn}{a:AV}{v:Value}(h:VR K a v):VL K a.cells v.cells.toList:=by
 cases h with
 |agg l cs hl h=>exact⟨by simpa[AV.cells,Value.cells] using hl,fun i hi hi'=>h i hi (by simpa[Value.cells] using hi')⟩
 |pv h'=>
  have:=VL.single (VR.pv h');cases h' with
  |lit v hp=>cases v<;>first|exact this|simp[pJ] at hp
  |rows=>exact this
  |opq=>exact this
  |rng=>exact this
  |sym i v h=>
   have ho:=h.one;have hv:v.cells.toList=[v]:=by cases v<;>first|rfl|cases ho
   rw[hv];exact this
  |any v h=>
   have hv:v.cells.toList=[v]:=by cases v<;>first|rfl|cases h
   rw[hv];exact this
 |trows t es g us a b c d e=>exact VL.single (.trows t es g us a b c d e)
 |tsym t i es hi h'=>
  have:=VL.single (VR.tsym t i es hi h');cases h' with
  |trows t es g us a b c d e=>exact this
 |ptr i o g a=>exact VL.single (.ptr i o g a)
 |cptr cs g o us a b=>exact VL.single (.cptr cs g o us a b)
 |tup l cs hl h=>exact VL.single (.tup l cs hl h)
 |fn f l cs hl h hb=>exact VL.single (.fn f l cs hl h hb)
 |bfn f g l cs hl h hg=>exact VL.single (.bfn f g l cs hl h hg)
 |sl t lo len sz g cap off a b c d f=>exact VL.single (.sl t lo len sz g cap off a b c d f)
 |ifc t a=>exact VL.single (.ifc t a)
 |arr t g c a b d=>exact VL.single (.arr t g c a b d)
 |aptr t i o g k kd a b c=>exact VL.single (.aptr t i o g k kd a b c)
def AV.toPV:AV→Option PV
 |.pv p=>some p
 |.trows _ es=>some (.rows es)
 |.tsym _ i=>some (.sym i)
 |_=>none
theorem VR.toPV{K:Kn}{a:AV}{v:Value}(h:VR K a v){p:PV}(hp:a.toPV=some p):PR K.R K.M p v:=by
 cases h with
 |pv h=>cases hp;exact h
 |trows t es g us hm hn hsz hc hr=>
  cases hp;exact .rows es (some ⟨g,0,none⟩) (K.Z g) g 0 (K.E g) us (fun _=>rfl) hn hsz (fun i hi j hj=>by rw[Nat.zero_add];exact hc i hi j hj) hr
 |tsym t i es hi h=>
  cases hp;refine .sym i _ ?_;rw[hi];cases h with
  |trows t es g us hm hn hsz hc hr=>exact .rows es (some ⟨g,0,none⟩) (K.Z g) g 0 (K.E g) us (fun _=>rfl) hn hsz (fun i hi j hj=>by rw[Nat.zero_add];exact hc i hi j hj) hr
 |ptr=>cases hp
 |cptr=>cases hp
 |agg=>cases hp
 |tup=>cases hp
 |fn=>cases hp
 |bfn=>cases hp
 |sl=>cases hp
 |ifc=>cases hp
 |arr=>cases hp
 |aptr=>cases hp
def PV.rowLen:PV→Nat
 |.rows es=>es.length
 |_=>0
def bq:Nat:=18446744073709551616
def dl(R:Nat→PV)(n:Nat):Nat:=if n<bq then n else(R (n-bq)).rowLen
theorem gT{R:Nat→PV}{n:Nat}(h:n<bq):dl R n=n:=if_pos h
theorem Eu{R:Nat→PV}{i:Nat}{es:List (List PV)}(h:R i=.rows es):dl R (bq+i)=es.length:=by
 unfold dl;rw[if_neg (by omega),show bq+i-bq=i by omega,h];rfl
def af.live:af→Bool
 |.dead=>false
 |_=>true
mutual
def ak(R:Nat→PV):PV→PV
 |.sym i=>R i
 |.rows es=>.rows (bO R es)
 |.lit v=>.lit v
 |.opq ne lo hi=>.opq ne lo hi
 |.rng lo hi=>.rng lo hi
 |.any=>.any
def aS(R:Nat→PV):List PV→List PV
 |[]=>[]
 |p::l=>ak R p::aS R l
def bO(R:Nat→PV):List (List PV)→List (List PV)
 |[]=>[]
 |l::es=>aS R l::bO R es
end
mutual
/-- No names within. -/
def EW:PV→Bool
 |.sym _=>false
 |.rows es=>ku es
 |_=>true
def AJ:List PV→Bool
 |[]=>true
 |p::l=>EW p&&AJ l
def ku:List (List PV)→Bool
 |[]=>true
 |c::l=>AJ c&&ku l
end
mutual
theorem F3(R:Nat→PV):∀p:PV,EW p=true→ak R p=p
 |.sym i,h=>by rw[EW] at h;cases h
 |.rows es,h=>by rw[EW] at h;rw[ak,CY R es h]
 |.lit v,_=>by rw[ak]
 |.opq ..,_=>by rw[ak]
 |.rng ..,_=>by rw[ak]
 |.any,_=>by rw[ak]
theorem FZ(R:Nat→PV):∀l:List PV,AJ l=true→aS R l=l
 |[],_=>by rw[aS]
 |p::l,h=>by
  rw[AJ,Bool.and_eq_true] at h;rw[aS,F3 R p h.1,FZ R l h.2]
theorem CY(R:Nat→PV):∀l:List (List PV),ku l=true→bO R l=l
 |[],_=>by rw[bO]
 |c::l,h=>by
  rw[ku,Bool.and_eq_true] at h;rw[bO,FZ R c h.1,CY R l h.2]
end
def cellV:PV→Value
 |.lit v=>v
 |_=>.bool false
structure AR(K:Kn)(i g sz:Nat)(p:PV)(cs:Array Value):Prop where
 el:K.E g=sz
 none:∀o,K.M g o=none
 row:∃es,ak K.R p=.rows es∧ku es=true∧es.length=K.N i∧es.length≤K.Z g∧(∀k (h:k<es.length),es[k].length=K.E g)∧
  ∀k (h:k<es.length) j (hj:j<es[k].length),∃v,cs[k*K.E g+j]? = some v∧PR K.R K.M es[k][j] v
theorem AR.go{K K':Kn}{i i' g sz:Nat}{p p':PV}{cs:Array Value}(h:AR K i g sz p cs)(hM:∀o,K'.M g o=.none)(hp:ak K'.R p'=ak K.R p)(hN:K'.N i'=K.N i)(hZ:K'.Z g=K.Z g)(hE:K'.E g=K.E g)
  (hv:∀q v,EW q=true→PR K.R K.M q v→PR K'.R K'.M q v):AR K' i' g sz p' cs:=by
 obtain⟨he,hn,es,h1,h2,h3,h4,h5,h6⟩:=h;refine⟨hE.trans he,hM,es,by rw[hp,h1],h2,by rw[hN,h3],by rw[hZ];exact h4,fun k hk=>by rw[hE];exact h5 k hk,fun k hk j hj=>?_⟩;obtain⟨v,a,b⟩:=h6 k hk j hj;rw[hE];refine⟨v,a,hv _ _ ?_ b⟩;have e1:∀(l:List PV),AJ l=true→∀q∈l,EW q=true:=by
  intro l
  induction l with
  |nil=>intro _ q hq;simp at hq
  |cons a l ih=>
   intro hl q hq;rw[AJ,Bool.and_eq_true] at hl;rcases List.mem_cons.1 hq with rfl|hq
   ·exact hl.1
   ·exact ih hl.2 q hq
 have e2:∀(l:List (List PV)),ku l=true→∀q∈l,AJ q=true:=by
  intro l
  induction l with
  |nil=>intro _ q hq;simp at hq
  |cons a l ih=>
   intro hl q hq;rw[ku,Bool.and_eq_true] at hl;rcases List.mem_cons.1 hq with rfl|hq
   ·exact hl.1
   ·exact ih hl.2 q hq
 exact e1 _ (e2 es h2 _ (List.getElem_mem hk)) _ (List.getElem_mem hj)
structure WR(K:Kn)(h:List af)(w:World):Prop where
 fresh:∀i,h.length≤i→K.mu i=none
 has:∀i,i<h.length→∃g,K.mu i=some g
 lt:∀i g,K.mu i=some g→g<w.heap.size
 box:∀(i:Nat) ty cells,h[i]? = some (.box ty cells)→∃g cs,K.mu i=some g∧w.heap[g]? = some (.cells cs ty (0,0))∧(cs.size=K.Z g*K.E g∧K.Z g≤maxLen)∧VL K cells (cs.toList.take cells.length)
 tok:∀(t:Nat) ty sz len,h[t]? = some (.tok ty sz len)→∃g cs,K.mu t=some g∧w.heap[g]? = some (.cells cs ty (0,0))∧cs.size=K.Z g*sz∧K.E g=sz∧K.Z g≤maxLen∧∀o,dl K.R len*sz≤o→K.M g o=none
 inj:∀(i j:Nat) x y g,h[i]? = some x→h[j]? = some y→x.live=true→y.live=true→K.mu i=some g→K.mu j=some g→i=j
 apart:∀(i:Nat) ty cells g,h[i]? = some (.box ty cells)→K.mu i=some g→∀o,K.M g o=none
 agr:∀g o v,K.M g o=some v→w.cell? ⟨g,o,none⟩=some v
 arr:∀(i:Nat) ty sz p,h[i]? = some (.arr ty sz p)→∃g cs,K.mu i=some g∧w.heap[g]? = some (.cells cs ty (0,0))∧(cs.size=K.Z g*K.E g∧K.Z g≤maxLen)∧AR K i g sz p cs
structure lF(S:Nat→Prop)(w w':World):Prop where
 os:w'.os=w.os
 tape:w'.tape=w.tape
 output:w'.output=w.output
 size:w.heap.size≤w'.heap.size
 block:∀k,k<w.heap.size→¬S k→w'.heap[k]? = w.heap[k]?
theorem lF.refl(S:Nat→Prop)(w:World):lF S w w:=⟨rfl,rfl,rfl,Nat.le_refl _,fun _ _ _=>rfl⟩
theorem lF.trans{S T:Nat→Prop}{a b c:World}(h:lF S a b)(k:lF T b c)(hT:∀i,i<a.heap.size→T i→S i):lF S a c:=
 ⟨k.os.trans h.os,k.tape.trans h.tape,k.output.trans h.output,Nat.le_trans h.size k.size,
  fun i hi hs=>(k.block i (Nat.lt_of_lt_of_le hi h.size) (fun ht=>hs (hT i hi ht))).trans (h.block i hi hs)⟩
theorem lF.mono{S T:Nat→Prop}{a b:World}(h:lF S a b)(hT:∀i,i<a.heap.size→S i→T i):lF T a b:=
 ⟨h.os,h.tape,h.output,h.size,fun i hi hs=>h.block i hi (fun ht=>hs (hT i hi ht))⟩
def Kn.at(K:Kn)(h:List af)(l:List Nat)(b:Nat):Prop:=∃i x,i∈l∧h[i]? = some x∧x.live=true∧K.mu i=some b
end Go.Proofs.YtijcobeebaceoaaGreatDoor
namespace Go.Proofs.YtijcobeebaceoaaGreatDoor
open Go.RowKit
theorem rH{w:World}{g o:Nat}{v:Value}(h:w.cell? ⟨g,o,none⟩=some v):g<w.heap.size:=by
 by_cases hg:g<w.heap.size
 ·exact hg
 ·simp[World.cell?,Array.getElem?_eq_none (Nat.le_of_not_lt hg)] at h
theorem Br{w:World}{g:Nat}{o:Obj}(h:w.heap[g]? = some o):g<w.heap.size:=by
 by_cases hg:g<w.heap.size
 ·exact hg
 ·rw[Array.getElem?_eq_none (Nat.le_of_not_lt hg)] at h;cases h
theorem WR.noM{K:Kn}{h:List af}{w:World}(H:WR K h w){g:Nat}(hg:w.heap.size≤g)(o:Nat):K.M g o=none:=by
 cases hm:K.M g o with
 |none=>rfl
 |some v=>have:=rH (H.agr g o v hm);omega
theorem WR.same{K:Kn}{h:List af}{w w':World}(H:WR K h w)(e:w'.heap=w.heap):WR K h w':=by
 refine⟨H.fresh,H.has,fun i g hg=>by rw[e];exact H.lt i g hg,fun i ty cells hi=>?_,fun t ty sz len ht=>?_,H.inj,H.apart,fun g o v hm=>?_,fun i ty sz p hi=>?_⟩
 ·rw[e];exact H.box i ty cells hi
 ·rw[e];exact H.tok t ty sz len ht
 ·rw[World.cell?_of_block (w:=w) (by rw[e])];exact H.agr g o v hm
 ·rw[e];exact H.arr i ty sz p hi
def Kn.withBox(K:Kn)(i g z e:Nat):Kn:={K with mu:=fun j=>if j=i then some g else K.mu j,Z:=fun b=>if b=g then z else K.Z b,E:=fun b=>if b=g then e else K.E b }
theorem Ext.withBox{K:Kn}{i g z e:Nat}(h:K.mu i=none)(hZE:∀i,K.mu i=some g→K.Z g=z∧K.E g=e):Ext K (K.withBox i g z e):=by
 refine⟨fun _ _ _ h=>h,fun j g' hj=>?_,fun i b hi=>?_,fun i b hi=>?_,rfl,fun _ _ _=>rfl⟩
 ·show (if j=i then some g else K.mu j)=some g'
  by_cases e:j=i
  ·subst e;rw[h] at hj;cases hj
  ·rw[if_neg e];exact hj
 ·show (if b=g then z else K.Z b)=K.Z b
  by_cases e:b=g
  ·subst e;rw[if_pos rfl];exact(hZE i hi).1.symm
  ·rw[if_neg e]
 ·show (if b=g then e else K.E b)=K.E b
  by_cases e:b=g
  ·subst e;rw[if_pos rfl];exact(hZE i hi).2.symm
  ·rw[if_neg e]
def M7(K:Kn)(x:af)(i g:Nat)(w:World):Prop:=match x with
 |.box ty cells=>∃cs,w.heap[g]? = some (.cells cs ty (0,0))∧(cs.size=K.Z g*K.E g∧K.Z g≤maxLen)∧VL K cells (cs.toList.take cells.length)
 |.arr ty sz p=>∃cs,w.heap[g]? = some (.cells cs ty (0,0))∧(cs.size=K.Z g*K.E g∧K.Z g≤maxLen)∧AR K i g sz p cs
 |_=>False
theorem fJ{α:Type}{l:List α}{x y:α}{i:Nat}(h:(l++[x])[i]? = some y):(i<l.length∧l[i]? = some y)∨(i=l.length∧x=y):=by
 by_cases hi:i<l.length
 ·rw[List.getElem?_append_left hi] at h;exact .inl ⟨hi,h⟩
 ·rw[List.getElem?_append_right (by omega)] at h
  by_cases h0:i-l.length=0
  ·rw[h0] at h
   refine .inr ⟨by omega,?_⟩;simpa using h
  ·rw[List.getElem?_eq_none (by simp;omega)] at h;cases h
theorem WR.put{K:Kn}{h h1:List af}{w w':World}(H:WR K h w)(x:af)(g z e:Nat)(hx:M7 (K.withBox h.length g z e) x h.length g w')(hgl:g<w'.heap.size)
  (hsize:w.heap.size≤w'.heap.size) (hblk:∀k,k<w.heap.size→k≠g→w'.heap[k]? = w.heap[k]?) (hM:∀o,K.M g o=none)
  (hlen:h1.length=h.length) (h1h:∀(j:Nat) x,h1[j]? = some x→x.live=true→h[j]? = some x∧K.mu j≠some g)
  (hZE:∀i,K.mu i=some g→K.Z g=z∧K.E g=e) :
  WR (K.withBox h.length g z e) (h1++[x]) w'∧Ext K (K.withBox h.length g z e):=by
 have hfr:=H.fresh _ (Nat.le_refl _);have hxt:Ext K (K.withBox h.length g z e):=Ext.withBox hfr hZE;have hnew:(K.withBox h.length g z e).mu h.length=some g:=by show (if _ then _ else _)=_;rw[if_pos rfl]
 have hmo:∀i b,(K.withBox h.length g z e).mu i=some b→(i=h.length∧b=g)∨(i≠h.length∧K.mu i=some b):=by
  intro i b hi;change (if i=h.length then some g else K.mu i)=some b at hi;by_cases e:i=h.length
  ·rw[if_pos e] at hi;cases hi;exact .inl ⟨e,rfl⟩
  ·rw[if_neg e] at hi;exact .inr ⟨e,hi⟩
 refine⟨⟨fun i hi=>?_,fun i hi=>?_,fun i b hi=>?_,fun i ty' cells' hi=>?_,fun t ty' sz' len ht=>?_,fun i j x y b hi hj hlx hly hmi hmj=>?_,fun i ty' cells' b hi hm o=>?_,fun b o v hm=>?_,fun i ty' sz' p' hi=>?_⟩,hxt⟩
 ·simp[hlen] at hi
  show (if i=h.length then some g else K.mu i)=none;rw[if_neg (by omega)];exact H.fresh i (by omega)
 ·by_cases e:i=h.length
  ·subst e;exact⟨_,hnew⟩
  ·obtain⟨b,hb⟩:=H.has i (by simp[hlen] at hi;omega)
   exact⟨b,hxt.mu i b hb⟩
 ·rcases hmo i b hi with⟨_,rfl⟩|⟨_,hi⟩
  ·exact hgl
  ·have:=H.lt i b hi;omega
 ·rcases fJ hi with⟨hl,hi⟩|⟨rfl,hi2⟩
  ·obtain⟨hh,hne⟩:=h1h i _ hi rfl
   obtain⟨b,cs',hm,hw,hs,hvl⟩:=H.box i ty' cells' hh;refine⟨b,cs',hxt.mu i b hm,?_,?_,hvl.mono hxt⟩
   ·rw[hblk b (H.lt i b hm) (fun e=>hne (by rw[←e];exact hm))];exact hw
   ·rw[hxt.Z i b hm,hxt.E i b hm];exact hs
  ·subst hi2
   obtain⟨cs,h1,h2,h3⟩:=hx;exact⟨g,cs,by rw[hlen];exact hnew,h1,h2,h3⟩
 ·rcases fJ ht with⟨hl,ht⟩|⟨rfl,ht2⟩
  ·obtain⟨hh,hne⟩:=h1h t _ ht rfl
   obtain⟨b,cs',hm,hw,h3,h4,h5,h6⟩:=H.tok t ty' sz' len hh;have hbg:b≠g:=fun e=>hne (by rw[←e];exact hm)
   refine⟨b,cs',hxt.mu t b hm,?_,?_,?_,?_,h6⟩
   ·rw[hblk b (H.lt t b hm) hbg];exact hw
   ·rw[hxt.Z t b hm];exact h3
   ·rw[hxt.E t b hm];exact h4
   ·rw[hxt.Z t b hm];exact h5
  ·subst ht2;exact hx.elim
 ·rcases hmo i b hmi with⟨hi1,hb⟩|⟨hi1,hmi⟩
  ·rcases hmo j b hmj with⟨hj1,_⟩|⟨hj1,hmj⟩
   ·omega
   ·rcases fJ hj with⟨_,hj⟩|⟨e,_⟩
    ·exact absurd (by rw[←hb];exact hmj) (h1h j y hj hly).2
    ·exact absurd (by rw[e,hlen]) hj1
  ·rcases fJ hi with⟨_,hi⟩|⟨e,_⟩
   ·rcases hmo j b hmj with⟨hj1,hb⟩|⟨hj1,hmj⟩
    ·exact absurd (by rw[←hb];exact hmi) (h1h i x hi hlx).2
    ·rcases fJ hj with⟨_,hj⟩|⟨e,_⟩
     ·exact H.inj i j x y b (h1h i x hi hlx).1 (h1h j y hj hly).1 hlx hly hmi hmj
     ·exact absurd (by rw[e,hlen]) hj1
   ·exact absurd (by rw[e,hlen]) hi1
 ·rcases hmo i b hm with⟨_,rfl⟩|⟨hi1,hm⟩
  ·exact hM o
  ·rcases fJ hi with⟨_,hi⟩|⟨e,hi2⟩
   ·exact H.apart i ty' cells' b (h1h i _ hi rfl).1 hm o
   ·exact absurd (by rw[e,hlen]) hi1
 ·have hm':K.M b o=some v:=hm
  have hc:=H.agr b o v hm';rw[World.cell?_of_block (w:=w) (hblk b (rH hc) (fun e=>by subst e;rw[hM o] at hm';cases hm'))];exact hc
 ·rcases fJ hi with⟨hl,hi⟩|⟨rfl,hi2⟩
  ·obtain⟨hh,hne⟩:=h1h i _ hi rfl
   obtain⟨b,cs',hm,hw,hs,ha⟩:=H.arr i ty' sz' p' hh;refine⟨b,cs',hxt.mu i b hm,?_,?_,ha.go ha.none rfl rfl (hxt.Z i b hm) (hxt.E i b hm) (fun _ _ _ h=>h)⟩
   ·rw[hblk b (H.lt i b hm) (fun e=>hne (by rw[←e];exact hm))];exact hw
   ·rw[hxt.Z i b hm,hxt.E i b hm];exact hs
  ·subst hi2
   obtain⟨cs,h1,h2,h3⟩:=hx;exact⟨g,cs,by rw[hlen];exact hnew,h1,h2,by rw[hlen];exact h3⟩
def Kn.withTok(K:Kn)(i g n sz cap:Nat)(cur:Array Value):Kn where
 M:=fun b o=>if b=g∧o<n*sz then(K.M b o).or cur[o]? else K.M b o
 Z:=fun b=>if b=g then cap else K.Z b
 E:=fun b=>if b=g then sz else K.E b
 mu:=fun j=>if j=i then some g else K.mu j
 R:=K.R
 N:=K.N
 gl:=fun b cs hb i v hv=>by
  have h:=K.gl b cs hb i v hv;split
  ·rw[h];rfl
  ·exact h
theorem WR.withTok{K:Kn}{h h1:List af}{w w':World}(H:WR K h w)(ty:TypeId)(g n sz cap:Nat)(cur:Array Value)
  (hg:w'.heap[g]? = some (.cells cur ty (0,0))) (hcs:cur.size=cap*sz) (hcap:cap≤maxLen)
  (hsize:w.heap.size≤w'.heap.size) (hblk:∀k,k<w.heap.size→k≠g→w'.heap[k]? = w.heap[k]?)
  (hold:∀o v,K.M g o=some v→o<n*sz∧cur[o]? = some v)
  (hlen:h1.length=h.length) (h1h:∀(j:Nat) x,h1[j]? = some x→x.live=true→h[j]? = some x∧K.mu j≠some g)
  (hZE:∀i,K.mu i=some g→K.Z g=cap∧K.E g=sz) {n':Nat} (hn':dl K.R n'=n) :
  WR (K.withTok h.length g n sz cap cur) (h1++[.tok ty sz n']) w'∧Ext K (K.withTok h.length g n sz cap cur):=by
 have hfr:=H.fresh _ (Nat.le_refl _);have hx:Ext K (K.withTok h.length g n sz cap cur):=by
  refine⟨fun b o v hm=>?_,fun i b hi=>?_,fun i b hi=>?_,fun i b hi=>?_,rfl,fun _ _ _=>rfl⟩
  ·show (if b=g∧o<n*sz then(K.M b o).or cur[o]? else K.M b o)=some v
   split
   ·rw[hm];rfl
   ·exact hm
  ·show (if i=h.length then some g else K.mu i)=some b
   by_cases e:i=h.length
   ·subst e;rw[hfr] at hi;cases hi
   ·rw[if_neg e];exact hi
  ·show (if b=g then cap else K.Z b)=K.Z b
   by_cases e:b=g
   ·subst e;rw[if_pos rfl];exact(hZE i hi).1.symm
   ·rw[if_neg e]
  ·show (if b=g then sz else K.E b)=K.E b
   by_cases e:b=g
   ·subst e;rw[if_pos rfl];exact(hZE i hi).2.symm
   ·rw[if_neg e]
 have hnew:(K.withTok h.length g n sz cap cur).mu h.length=some g:=by show (if _ then _ else _)=_;rw[if_pos rfl]
 have hmo:∀i b,(K.withTok h.length g n sz cap cur).mu i=some b→(i=h.length∧b=g)∨(i≠h.length∧K.mu i=some b):=by
  intro i b hi;change (if i=h.length then some g else K.mu i)=some b at hi;by_cases e:i=h.length
  ·rw[if_pos e] at hi;cases hi;exact .inl ⟨e,rfl⟩
  ·rw[if_neg e] at hi;exact .inr ⟨e,hi⟩
 have hMo:∀b o v,(K.withTok h.length g n sz cap cur).M b o=some v→(b=g∧o<n*sz∧cur[o]? = some v)∨(K.M b o=some v):=by
  intro b o v hm;change (if b=g∧o<n*sz then(K.M b o).or cur[o]? else K.M b o)=some v at hm;by_cases e:b=g∧o<n*sz
  ·rw[if_pos e] at hm
   cases hk:K.M b o with
   |none=>rw[hk] at hm;exact .inl ⟨e.1,e.2,hm⟩
   |some u=>rw[hk] at hm;exact .inr hm
  ·rw[if_neg e] at hm;exact .inr hm
 have hMn:∀b,b≠g→∀o,(K.withTok h.length g n sz cap cur).M b o=K.M b o:=by
  intro b hb o;show (if b=g∧o<n*sz then(K.M b o).or cur[o]? else K.M b o)=_;rw[if_neg (fun h=>hb h.1)]
 have hgl:=Br hg;refine⟨⟨fun i hi=>?_,fun i hi=>?_,fun i b hi=>?_,fun i ty' cells' hi=>?_,fun t ty' sz' len ht=>?_,fun i j x y b hi hj hlx hly hmi hmj=>?_,fun i ty' cells' b hi hm o=>?_,fun b o v hm=>?_,fun i ty' sz' p' hi=>?_⟩,hx⟩
 ·simp[hlen] at hi
  show (if i=h.length then some g else K.mu i)=none;rw[if_neg (by omega)];exact H.fresh i (by omega)
 ·by_cases e:i=h.length
  ·subst e;exact⟨_,hnew⟩
  ·obtain⟨b,hb⟩:=H.has i (by simp[hlen] at hi;omega)
   exact⟨b,hx.mu i b hb⟩
 ·rcases hmo i b hi with⟨_,rfl⟩|⟨_,hi⟩
  ·exact hgl
  ·have:=H.lt i b hi;omega
 ·rcases fJ hi with⟨hl,hi⟩|⟨rfl,hi2⟩
  ·obtain⟨hh,hne⟩:=h1h i _ hi rfl
   obtain⟨b,cs',hm,hw,hs,hvl⟩:=H.box i ty' cells' hh;refine⟨b,cs',hx.mu i b hm,?_,?_,hvl.mono hx⟩
   ·rw[hblk b (H.lt i b hm) (fun e=>hne (by rw[←e];exact hm))];exact hw
   ·rw[hx.Z i b hm,hx.E i b hm];exact hs
  ·cases hi2
 ·rcases fJ ht with⟨hl,ht⟩|⟨rfl,ht2⟩
  ·obtain⟨hh,hne⟩:=h1h t _ ht rfl
   obtain⟨b,cs',hm,hw,h3,h4,h5,h6⟩:=H.tok t ty' sz' len hh;have hbg:b≠g:=fun e=>hne (by rw[←e];exact hm)
   refine⟨b,cs',hx.mu t b hm,?_,?_,?_,?_,?_⟩
   ·rw[hblk b (H.lt t b hm) hbg];exact hw
   ·rw[hx.Z t b hm];exact h3
   ·rw[hx.E t b hm];exact h4
   ·rw[hx.Z t b hm];exact h5
   ·intro o ho;rw[hMn b hbg];exact h6 o ho
  ·cases ht2
   rw[hlen] at *;refine⟨g,cur,hnew,hg,?_,?_,?_,?_⟩
   ·show cur.size=(if g=g then cap else K.Z g)*sz;rw[if_pos rfl];exact hcs
   ·show (if g=g then sz else K.E g)=sz;rw[if_pos rfl]
   ·show (if g=g then cap else K.Z g)≤maxLen;rw[if_pos rfl];exact hcap
   ·intro o ho
    change dl K.R n'*sz≤o at ho;rw[hn'] at ho;show (if g=g∧o<n*sz then(K.M g o).or cur[o]? else K.M g o)=none;rw[if_neg (by omega)];cases hm:K.M g o with
    |none=>rfl
    |some v=>have:=(hold o v hm).1;omega
 ·rcases hmo i b hmi with⟨hi1,hb⟩|⟨hi1,hmi⟩
  ·rcases hmo j b hmj with⟨hj1,_⟩|⟨hj1,hmj⟩
   ·omega
   ·rcases fJ hj with⟨_,hj⟩|⟨e,_⟩
    ·exact absurd (by rw[←hb];exact hmj) (h1h j y hj hly).2
    ·exact absurd (by rw[e,hlen]) hj1
  ·rcases fJ hi with⟨_,hi⟩|⟨e,_⟩
   ·rcases hmo j b hmj with⟨hj1,hb⟩|⟨hj1,hmj⟩
    ·exact absurd (by rw[←hb];exact hmi) (h1h i x hi hlx).2
    ·rcases fJ hj with⟨_,hj⟩|⟨e,_⟩
     ·exact H.inj i j x y b (h1h i x hi hlx).1 (h1h j y hj hly).1 hlx hly hmi hmj
     ·exact absurd (by rw[e,hlen]) hj1
   ·exact absurd (by rw[e,hlen]) hi1
 ·rcases fJ hi with⟨_,hi⟩|⟨e,hi2⟩
  ·obtain⟨hh,hne⟩:=h1h i _ hi rfl
   rcases hmo i b hm with⟨e,_⟩|⟨hi1,hm⟩
   ·have:i<h1.length:=by
     by_cases hl:i<h1.length
     ·exact hl
     ·rw[List.getElem?_eq_none (by omega)] at hi;cases hi
    omega
   ·rw[hMn b (fun e=>hne (by rw[←e];exact hm))]
    exact H.apart i ty' cells' b hh hm o
  ·cases hi2
 ·rcases hMo b o v hm with⟨rfl,_,hc⟩|hm2
  ·simp[World.cell?,hg,hc]
  ·by_cases e:b=g
   ·subst e
    simp[World.cell?,hg,(hold o v hm2).2]
   ·have hc:=H.agr b o v hm2
    rw[World.cell?_of_block (w:=w) (hblk b (rH hc) e)];exact hc
 ·rcases fJ hi with⟨hl,hi⟩|⟨rfl,hi2⟩
  ·obtain⟨hh,hne⟩:=h1h i _ hi rfl
   obtain⟨b,cs',hm,hw,hs,ha⟩:=H.arr i ty' sz' p' hh;have hbg:b≠g:=fun e=>hne (by rw[←e];exact hm)
   refine⟨b,cs',hx.mu i b hm,?_,?_,ha.go (fun o=>by rw[hMn b hbg];exact ha.none o) rfl rfl (hx.Z i b hm) (hx.E i b hm) (fun _ _ _ h=>h.mono hx.M)⟩
   ·rw[hblk b (H.lt i b hm) hbg];exact hw
   ·rw[hx.Z i b hm,hx.E i b hm];exact hs
  ·cases hi2
theorem WR.store{K:Kn}{h:List af}{w w':World}(H:WR K h w)(i:Nat)(x0 x:af)(g:Nat)(hi:h[i]? = some x0)(hl0:x0.live=true)(hlx0:x.live=true)(hm:K.mu i=some g)
  (hx:M7 K x i g w') (hM:∀o,K.M g o=none) (hsize:w'.heap.size=w.heap.size) (hblk:∀k,k≠g→w'.heap[k]? = w.heap[k]?) :
  WR K (h.set i x) w':=by
 have hil:i<h.length:=by
  by_cases hl:i<h.length
  ·exact hl
  ·rw[List.getElem?_eq_none (by omega)] at hi;cases hi
 have hget:∀(j:Nat) y,(h.set i x)[j]? = some y→(j=i∧y=x)∨(j≠i∧h[j]? = some y):=by
  intro j y hj;rw[List.getElem?_set] at hj;by_cases e:i=j
  ·subst e;rw[if_pos rfl,if_pos hil] at hj;cases hj;exact .inl ⟨rfl,rfl⟩
  ·rw[if_neg e] at hj;exact .inr ⟨fun h=>e h.symm,hj⟩
 have hlive:∀(j:Nat) y,(h.set i x)[j]? = some y→y.live=true→∃y,h[j]? = some y∧y.live=true:=by
  intro j y hj hl;rcases hget j y hj with⟨rfl,_⟩|⟨_,hj⟩
  ·exact⟨_,hi,hl0⟩
  ·exact⟨y,hj,hl⟩
 refine⟨fun j hj=>H.fresh j (by simpa using hj),fun j hj=>H.has j (by simpa using hj),fun j b hj=>by rw[hsize];exact H.lt j b hj,fun j ty' c hj=>?_,fun t ty' sz len ht=>?_,fun a b x y q ha hb hlx hly hma hmb=>?_,fun j ty' c b hj hmj o=>?_,fun b o v hmv=>?_,fun j ty' sz' p' hj=>?_⟩
 ·rcases hget j _ hj with⟨rfl,e⟩|⟨hne,hj⟩
  ·subst e;obtain⟨cs,h1,h2,h3⟩:=hx;exact⟨g,cs,hm,h1,h2,h3⟩
  ·obtain⟨b,cs2,hm2,hw2,hv2⟩:=H.box j ty' c hj
   refine⟨b,cs2,hm2,?_,hv2⟩;rw[hblk b (fun e=>hne (by subst e;exact H.inj j i _ _ b hj hi rfl hl0 hm2 hm))];exact hw2
 ·rcases hget t _ ht with⟨_,e⟩|⟨hne,ht⟩
  ·subst e;exact hx.elim
  ·obtain⟨b,cs2,hm2,hw2,rest⟩:=H.tok t ty' sz len ht
   refine⟨b,cs2,hm2,?_,rest⟩;rw[hblk b (fun e=>hne (by subst e;exact H.inj t i _ _ b ht hi rfl hl0 hm2 hm))];exact hw2
 ·obtain⟨x',hx',hlx'⟩:=hlive a x ha hlx
  obtain⟨y',hy',hly'⟩:=hlive b y hb hly;exact H.inj a b x' y' q hx' hy' hlx' hly' hma hmb
 ·rcases hget j _ hj with⟨rfl,e⟩|⟨hne,hj⟩
  ·rw[hm] at hmj;cases hmj;exact hM o
  ·exact H.apart j ty' c b hj hmj o
 ·have hbg:b≠g:=fun e=>by subst e;rw[hM o] at hmv;cases hmv
  rw[World.cell?_of_block (w:=w) (hblk b hbg)];exact H.agr b o v hmv
 ·rcases hget j _ hj with⟨rfl,e⟩|⟨hne,hj⟩
  ·subst e;obtain⟨cs,h1,h2,h3⟩:=hx;exact⟨g,cs,hm,h1,h2,h3⟩
  ·obtain⟨b,cs2,hm2,hw2,hv2⟩:=H.arr j ty' sz' p' hj
   refine⟨b,cs2,hm2,?_,hv2⟩;rw[hblk b (fun e=>hne (by subst e;exact H.inj j i _ _ b hj hi rfl hl0 hm2 hm))];exact hw2
def Kn.liveB(K:Kn)(h:List af)(b:Nat):Prop:=∃(i:Nat) (x:af),h[i]? = some x∧x.live=true∧K.mu i=some b
structure Step(K:Kn)(h:List af)(w:World)(K':Kn)(h':List af)(w':World):Prop where
 wr:WR K' h' w'
 ext:Ext K K'
 frm:lF (K.liveB h) w w'
 zs:∀g,g<w.heap.size→K'.Z g=K.Z g∧K'.E g=K.E g
 ms:∀g o,g<w.heap.size→¬K.liveB h g→K'.M g o=K.M g o
 mu:∀k b,K'.mu k=some b→K.mu k=some b∨w.heap.size≤b∨K.liveB h b
 live:∀b,K'.liveB h' b→b<w.heap.size→K.liveB h b
 len:h.length≤h'.length
theorem Step.refl{K:Kn}{h:List af}{w:World}(H:WR K h w):Step K h w K h w:=
 ⟨H,Ext.refl K,lF.refl _ w,fun _ _=>⟨rfl,rfl⟩,fun _ _ _ _=>rfl,fun _ _ h=>.inl h,fun _ h _=>h,Nat.le_refl _⟩
theorem Step.trans{K K1 K2:Kn}{h h1 h2:List af}{w w1 w2:World}(a:Step K h w K1 h1 w1)(b:Step K1 h1 w1 K2 h2 w2):Step K h w K2 h2 w2 where
 wr:=b.wr
 ext:=a.ext.trans b.ext
 frm:=a.frm.trans b.frm (fun i hi ht=>a.live i ht hi)
 zs:=fun g hg=>by
  have h1:=a.zs g hg;have h2:=b.zs g (Nat.lt_of_lt_of_le hg a.frm.size);exact⟨h2.1.trans h1.1,h2.2.trans h1.2⟩
 ms:=fun g o hg hl=>(b.ms g o (Nat.lt_of_lt_of_le hg a.frm.size) (fun h=>hl (a.live g h hg))).trans (a.ms g o hg hl)
 mu:=fun k c hk=>by
  have hsz:=a.frm.size;rcases b.mu k c hk with h|h|h
  ·exact a.mu k c h
  ·exact .inr (.inl (Nat.le_trans hsz h))
  ·by_cases hc:c<w.heap.size
   ·exact .inr (.inr (a.live c h hc))
   ·exact .inr (.inl (Nat.le_of_not_lt hc))
 live:=fun c hl hc=>a.live c (b.live c hl (Nat.lt_of_lt_of_le hc a.frm.size)) hc
 len:=Nat.le_trans a.len b.len
theorem Step.put{K:Kn}{h h1:List af}{w w':World}(H:WR K h w)(x:af)(g z e:Nat)(hx:M7 (K.withBox h.length g z e) x h.length g w')(hgs:g<w'.heap.size)
  (hfr:lF (fun k=>k=g) w w') (hM:∀o,K.M g o=none)
  (hlen:h1.length=h.length) (h1h:∀(j:Nat) x,h1[j]? = some x→x.live=true→h[j]? = some x∧K.mu j≠some g)
  (hZE:∀i,K.mu i=some g→K.Z g=z∧K.E g=e) (hgl:w.heap.size≤g∨K.liveB h g) :
  Step K h w (K.withBox h.length g z e) (h1++[x]) w':=by
 obtain⟨hw,hxt⟩:=H.put x g z e hx hgs hfr.size (fun k hk hne=>hfr.block k hk hne) hM hlen h1h hZE;have hmu:∀k b,(K.withBox h.length g z e).mu k=some b→(k=h.length∧b=g)∨K.mu k=some b:=by
  intro k b hk;change (if k=h.length then some g else K.mu k)=some b at hk;by_cases e:k=h.length
  ·rw[if_pos e] at hk;cases hk;exact .inl ⟨e,rfl⟩
  ·rw[if_neg e] at hk;exact .inr hk
 refine⟨hw,hxt,hfr.mono (fun i hi e=>?_),fun b hb=>?_,fun b o hb hl=>rfl,fun k b hk=>?_,fun b hl hb=>?_,by simp[hlen]⟩
 ·subst e
  rcases hgl with h|h
  ·omega
  ·exact h
 ·show (if b=g then z else K.Z b)=K.Z b∧(if b=g then e else K.E b)=K.E b
  by_cases e:b=g
  ·subst e
   rcases hgl with h|⟨i,x,_,_,hm⟩
   ·omega
   ·have:=hZE i hm
    rw[if_pos rfl,if_pos rfl];exact⟨this.1.symm,this.2.symm⟩
  ·rw[if_neg e,if_neg e];exact⟨rfl,rfl⟩
 ·rcases hmu k b hk with⟨_,rfl⟩|h
  ·exact .inr hgl
  ·exact .inl h
 ·obtain⟨i,x,hi,hlx,hm⟩:=hl
  rcases hmu i b hm with⟨_,rfl⟩|h2
  ·rcases hgl with h|h
   ·omega
   ·exact h
  ·rcases fJ hi with⟨_,hi⟩|⟨e,_⟩
   ·exact⟨i,x,(h1h i x hi hlx).1,hlx,h2⟩
   ·rw[e,hlen,H.fresh _ (Nat.le_refl _)] at h2;cases h2
theorem fw(K:Kn)(i g z e:Nat):(K.withBox i g z e).Z g=z:=by show (if g=g then z else K.Z g)=z;rw[if_pos rfl]
theorem dZ(K:Kn)(i g z e:Nat):(K.withBox i g z e).E g=e:=by show (if g=g then e else K.E g)=e;rw[if_pos rfl]
theorem Step.fresh{K:Kn}{h:List af}{w w':World}(H:WR K h w)(x:af)(z e:Nat)(ob:Obj)(hw':w'.heap=w.heap.push ob)(hfr:lF (fun _=>False) w w')(hx:Ext K (K.withBox h.length w.heap.size z e)→M7 (K.withBox h.length w.heap.size z e) x h.length w.heap.size w') :
  Step K h w (K.withBox h.length w.heap.size z e) (h++[x]) w':=by
 have hno:∀i,K.mu i≠some w.heap.size:=fun i hm=>by have:=H.lt i _ hm;omega
 exact Step.put H x w.heap.size z e (hx (Ext.withBox (H.fresh _ (Nat.le_refl _)) (fun i hm=>absurd hm (hno i)))) (by rw[hw'];simp) (hfr.mono (fun _ _ h=>h.elim)) (fun o=>H.noM (Nat.le_refl _) o) rfl
  (fun j x hj _=>⟨hj,hno j⟩) (fun i hm=>absurd hm (hno i)) (.inl (Nat.le_refl _))
theorem Step.allocBox{K:Kn}{h:List af}{w:World}(H:WR K h w)(ty:TypeId)(cells:List AV)(cs:Array Value)(hv:VL K cells cs.toList) :
  Step K h w (K.withBox h.length w.heap.size 1 cs.size) (h++[.box ty cells]) (w.alloc (.cells cs ty)):=by
 refine Step.fresh H (.box ty cells) 1 cs.size (.cells cs ty) rfl ⟨rfl,rfl,rfl,by simp,fun k hk _=>Below.heap_alloc w _ k hk⟩ (fun hx=>?_);refine⟨cs,heap_alloc_new w _,?_,?_⟩
 ·rw[fw,dZ];exact⟨by omega,by decide⟩
 ·have hl:cells.length=cs.toList.length:=hv.1
  rw[hl,List.take_length];exact hv.mono hx
theorem Step.withTok{K:Kn}{h h1:List af}{w w':World}(H:WR K h w)(ty:TypeId)(g n sz cap:Nat)(cur:Array Value)
  (hg:w'.heap[g]? = some (.cells cur ty (0,0))) (hcs:cur.size=cap*sz) (hcap:cap≤maxLen)
  (hfr:lF (fun k=>k=g) w w')
  (hold:∀o v,K.M g o=some v→o<n*sz∧cur[o]? = some v)
  (hlen:h1.length=h.length) (h1h:∀(j:Nat) x,h1[j]? = some x→x.live=true→h[j]? = some x∧K.mu j≠some g)
  (hZE:∀i,K.mu i=some g→K.Z g=cap∧K.E g=sz) (hgl:w.heap.size≤g∨K.liveB h g) {n':Nat} (hn':dl K.R n'=n) :
  Step K h w (K.withTok h.length g n sz cap cur) (h1++[.tok ty sz n']) w':=by
 obtain⟨hw,hx⟩:=H.withTok ty g n sz cap cur hg hcs hcap hfr.size (fun k hk hne=>hfr.block k hk hne) hold hlen h1h hZE hn';have hmu:∀k b,(K.withTok h.length g n sz cap cur).mu k=some b→(k=h.length∧b=g)∨K.mu k=some b:=by
  intro k b hk;change (if k=h.length then some g else K.mu k)=some b at hk;by_cases e:k=h.length
  ·rw[if_pos e] at hk;cases hk;exact .inl ⟨e,rfl⟩
  ·rw[if_neg e] at hk;exact .inr hk
 refine⟨hw,hx,hfr.mono (fun i hi e=>?_),fun b hb=>?_,fun b o hb hl=>?_,fun k b hk=>?_,fun b hl hb=>?_,by simp[hlen]⟩
 ·subst e
  rcases hgl with h|h
  ·omega
  ·exact h
 ·show (if b=g then cap else K.Z b)=K.Z b∧(if b=g then sz else K.E b)=K.E b
  by_cases e:b=g
  ·subst e
   rcases hgl with h|⟨i,x,_,_,hm⟩
   ·omega
   ·have:=hZE i hm
    rw[if_pos rfl,if_pos rfl];exact⟨this.1.symm,this.2.symm⟩
  ·rw[if_neg e,if_neg e];exact⟨rfl,rfl⟩
 ·show (if b=g∧o<n*sz then(K.M b o).or cur[o]? else K.M b o)=K.M b o
  rw[if_neg];rintro⟨rfl,_⟩;rcases hgl with h|h
  ·omega
  ·exact hl h
 ·rcases hmu k b hk with⟨_,rfl⟩|h
  ·exact .inr hgl
  ·exact .inl h
 ·obtain⟨i,x,hi,hlx,hm⟩:=hl
  rcases hmu i b hm with⟨_,rfl⟩|h2
  ·rcases hgl with h|h
   ·omega
   ·exact h
  ·rcases fJ hi with⟨_,hi⟩|⟨e,_⟩
   ·exact⟨i,x,(h1h i x hi hlx).1,hlx,h2⟩
   ·rw[e,hlen,H.fresh _ (Nat.le_refl _)] at h2;cases h2
theorem Step.store{K:Kn}{h:List af}{w w':World}(H:WR K h w)(i:Nat)(x0 x:af)(g:Nat)(hi:h[i]? = some x0)(hl0:x0.live=true)(hlx:x.live=true)(hm:K.mu i=some g)
  (hx:M7 K x i g w') (hM:∀o,K.M g o=none) (hfr:lF (fun k=>k=g) w w') (hsize:w'.heap.size=w.heap.size) (hblk:∀k,k≠g→w'.heap[k]? = w.heap[k]?) :
  Step K h w K (h.set i x) w':=by
 refine⟨H.store i x0 x g hi hl0 hlx hm hx hM hsize hblk,Ext.refl K,hfr.mono (fun b _ e=>?_),fun _ _=>⟨rfl,rfl⟩,fun _ _ _ _=>rfl,fun _ _ h=>.inl h,fun b hl _=>?_,by simp⟩
 ·subst e;exact⟨i,_,hi,hl0,hm⟩
 ·obtain⟨j,y,hj,hly,hmj⟩:=hl
  rw[List.getElem?_set] at hj;by_cases e:i=j
  ·subst e;exact⟨i,_,hi,hl0,hmj⟩
  ·rw[if_neg e] at hj;exact⟨j,y,hj,hly,hmj⟩
def Kn.setN(K:Kn)(i n:Nat):Kn:={K with N:=fun j=>if j=i then n else K.N j }
theorem Wx(K:Kn)(i n:Nat):(K.setN i n).N i=n:=by show (if i=i then n else _)=n;rw[if_pos rfl]
theorem Step.setN{K:Kn}{h:List af}{w:World}(H:WR K h w)(n:Nat):Step K h w (K.setN h.length n) h w:=by
 have hN:∀i,i≠h.length→(K.setN h.length n).N i=K.N i:=fun i hi=>by show (if i=h.length then n else _)=_;rw[if_neg hi]
 have hmu:∀i g,K.mu i=some g→i≠h.length:=fun i g hi e=>by rw[e,H.fresh _ (Nat.le_refl _)] at hi;cases hi
 have hxt:Ext K (K.setN h.length n):=⟨fun _ _ _ h=>h,fun _ _ h=>h,fun _ _ _=>rfl,fun _ _ _=>rfl,rfl,fun i g hi=>hN i (hmu i g hi)⟩;refine⟨⟨H.fresh,H.has,H.lt,fun i ty cells hi=>let ⟨g,cs,a,b,c,d⟩:=H.box i ty cells hi;⟨g,cs,a,b,c,d.mono hxt⟩,H.tok,H.inj,H.apart,H.agr,fun i ty sz p hi=>?_⟩,hxt,lF.refl _ w,fun _ _=>⟨rfl,rfl⟩,fun _ _ _ _=>rfl,fun _ _ h=>.inl h,fun _ h _=>h,Nat.le_refl _⟩;obtain⟨g,cs,hm,hw,hs,ha⟩:=H.arr i ty sz p hi;exact⟨g,cs,hm,hw,hs,ha.go ha.none rfl (hN i (hmu i g hm)) rfl rfl (fun _ _ _ h=>h)⟩
theorem Step.putArr{K:Kn}{h h1:List af}{w w':World}(H:WR K h w)(ty:TypeId)(sz:Nat)(q:PV)(g z:Nat)(cur:Array Value)(es:List (List PV))
  (hq:ak K.R q=.rows es) (hns:ku es=true) (hwg:w'.heap[g]? = some (.cells cur ty (0,0))) (hsz:cur.size=z*sz) (hz:z≤maxLen) (hle:es.length≤z)
  (hel:∀k (h:k<es.length),es[k].length=sz) (hcell:∀k (h:k<es.length) j (hj:j<es[k].length),∃v,cur[k*sz+j]? = some v∧PR K.R K.M es[k][j] v)
  (hgs:g<w'.heap.size) (hfr:lF (fun k=>k=g) w w') (hM:∀o,K.M g o=none)
  (hlen:h1.length=h.length) (h1h:∀(j:Nat) x,h1[j]? = some x→x.live=true→h[j]? = some x∧K.mu j≠some g)
  (hZE:∀i,K.mu i=some g→K.Z g=z∧K.E g=sz) (hgl:w.heap.size≤g∨K.liveB h g) :
  ∃K',Step K h w K' (h1++[.arr ty sz q]) w'∧K'.mu h.length=some g∧K'.N h.length=es.length∧K'.Z g=z∧K'.E g=sz:=by
 have s1:=Step.setN H es.length;have hmu0:∀i b,K.mu i=some b→i≠h.length:=fun i b hi e=>by rw[e,H.fresh _ (Nat.le_refl _)] at hi;cases hi
 have s2:=Step.put (K:=K.setN h.length es.length) s1.wr (h1:=h1) (w':=w') (.arr ty sz q) g z sz
  ⟨cur,hwg,by rw[fw,dZ];exact⟨hsz,hz⟩,dZ _ _ _ _ _,hM,es,hq,hns,(Wx K h.length es.length).symm,by rw[fw];exact hle,fun k hk=>by rw[dZ];exact hel k hk,fun k hk j hj=>by rw[dZ];exact hcell k hk j hj⟩
  hgs hfr hM hlen h1h hZE hgl
 refine⟨_,s1.trans s2,?_,Wx K h.length es.length,fw _ _ _ _ _,dZ _ _ _ _ _⟩;show (if h.length=h.length then some g else _)=some g;rw[if_pos rfl]
def bT{α:Type}(P:Program):Sem α→Option α
 |.pure a=>some a
 |.program k=>bT P (k P)
 |.mark _ k=>bT P k
 |_=>none
theorem iF{α:Type}{P:Program}{s:Sem α}{a:α}(h:bT P s=some a)(w:World):s.run P w=.ok a w:=by
 induction s with
 |pure b=>simp only[bT] at h;cases h;rfl
 |program k ih=>simp only[bT] at h;simp only[Sem.run];exact ih P h
 |mark m k ih=>simp only[bT] at h;simp only[Sem.run];exact ih h
 |_=>simp[bT] at h
abbrev Env:=List (Nat×AV)
def look:Env→Nat→Option AV
 |[],_=>none
 |(k,v)::r,d=>match Nat.beq k d with
  |true=>some v
  |false=>look r d
def Uf(sl:Env):Operand→Option AV
 |.tmp t=>look sl t
 |.const v=>if pJ v then some (.pv (.lit v)) else none
 |.func f=>match Nat.blt f EH with
  |true=>some (.fn f [])
  |false=>none
 |.global g=>match ama g with
  |some cs=>if cs.all pJ then some (.cptr (cs.map .lit)) else none
  |none=>none
theorem VR.undef(K:Kn):VR K (.tup []) Go.undef:=.tup [] [] rfl (fun i h=>by simp at h)
def bF(K:Kn)(n:Nat)(e:Env)(tm:Array Value):Prop:=n≤tm.size∧∀d v,look e d=some v→VR K v (tm.getD d Go.undef)
theorem bF.mono{K K':Kn}{n:Nat}{e:Env}{tm:Array Value}(h:bF K n e tm)(x:Ext K K'):bF K' n e tm:=⟨h.1,fun d v hd=>(h.2 d v hd).mono x⟩
theorem kL{K:Kn}{n:Nat}{sl:Env}{a:Act}(h:bF K n sl a.tmps){x:Operand}{v:AV}(hx:Uf sl x=some v):VR K v (a.eval x):=by
 cases x with
 |tmp t=>exact h.2 t v hx
 |const c=>
  simp only[Uf] at hx;split at hx
  ·rename_i hp;cases hx;exact .pv (.lit c hp)
  ·cases hx
 |func f=>
  simp only[Uf] at hx;split at hx
  ·rename_i hb;cases hx;exact .fn f [] [] rfl (fun i h=>by simp at h) (Nat.le_of_ble_eq_true hb)
  ·cases hx
 |global g=>
  simp only[Uf] at hx;split at hx
  ·rename_i cs hg
   split at hx
   ·rename_i hp
    cases hx;refine .cptr (cs.map .lit) g 0 (fun j=>cs.getD j Go.undef) (fun j hj=>?_) (fun j hj=>?_)
    ·rw[List.length_map] at hj
     rw[Nat.zero_add];refine K.gl g cs hg j _ ?_;rw[List.getD_eq_getElem?_getD,List.getElem?_eq_getElem hj];rfl
    ·rw[List.length_map] at hj
     rw[List.getElem_map,List.getD_eq_getElem?_getD,List.getElem?_eq_getElem hj];rw[List.all_eq_true] at hp;exact .lit _ (hp _ (List.getElem_mem hj))
   ·cases hx
  ·cases hx
def alr:AV→Option Value
 |.pv (.lit v)=>some v
 |_=>none
def Y5:List AV→Option (List Value)
 |[]=>some []
 |a::l=>match alr a,Y5 l with
  |some v,some vs=>some (v::vs)
  |_,_=>none
def AV.val? : AV→Option Value
 |.pv (.lit v)=>some v
 |.agg l=>(Y5 l).map fun vs=>.agg vs.toArray
 |_=>none
theorem ac9{K:Kn}{a:AV}{v u:Value}(h:VR K a v)(hu:alr a=some u):v=u:=by
 cases h with
 |pv h=>cases h with
  |lit v hp=>cases hu;rfl
  |_=>cases hu
 |_=>cases hu
theorem Sl{K:Kn}:∀{l:List AV} {cs us:List Value},VL K l cs→Y5 l=some us→cs=us
 |[],cs,us,h,hu=>by
  cases hu;exact List.eq_nil_of_length_eq_zero h.1.symm
 |a::l,[],us,h,_=>by have:=h.1;simp at this
 |a::l,c::cs,us,h,hu=>by
  rw[Y5] at hu;split at hu
  ·rename_i v vs h1 h2
   cases hu;have e1:=ac9 (h.2 0 (by simp) (by simp)) h1;have e2:=Sl (cs:=cs) ⟨by simpa using h.1,fun i hi hi'=>h.2 (i+1) (by simpa using hi) (by simpa using hi')⟩ h2;simp only[List.getElem_cons_zero] at e1;rw[e1,e2]
  ·cases hu
theorem eO{K:Kn}{a:AV}{v u:Value}(h:VR K a v)(hu:a.val? = some u):v=u:=by
 cases h with
 |pv h=>cases h with
  |lit v hp=>cases hu;rfl
  |_=>cases hu
 |agg l cs hl h=>
  simp only[AV.val?] at hu;cases hL:Y5 l with
  |none=>rw[hL] at hu;cases hu
  |some vs=>
   rw[hL] at hu;cases hu;rw[Sl ⟨hl,h⟩ hL]
 |_=>cases hu
def lK(v:Value):Option AV:=if pJ v then some (.pv (.lit v)) else none
theorem gN{K:Kn}{v:Value}{a:AV}(h:lK v=some a):VR K a v:=by
 unfold lK at h;split at h
 ·rename_i hp;cases h;exact .pv (.lit v hp)
 ·cases h
def mO(P:Program)(t:TypeId):Option Nat:=(P.info? t).map (·.size)
def afu(P:Program)(t:TypeId):Option Bool:=match P.underlying t with
 |some (.struct _)|some (.array _ _)=>some true
 |some _=>some false
 |none=>none
theorem iq{P:Program}{t:TypeId}{n:Nat}(h:mO P t=some n)(w:World):(sizeOf t).run P w=.ok n w:=by
 unfold mO at h;cases hi:P.info? t with
 |none=>rw[hi] at h;cases h
 |some i=>rw[hi] at h;cases h;simp[sizeOf,typeInfo,hi]
theorem yI{P:Program}{t:TypeId}{b:Bool}(h:afu P t=some b)(w:World):(isAgg t).run P w=.ok b w:=by
 unfold afu at h;cases hu:P.underlying t with
 |none=>rw[hu] at h;cases h
 |some d=>
  rw[hu] at h;cases d<;>(cases h;simp[isAgg,run_underlying hu])
def F5(P:Program)(t:TypeId)(l:List AV):Option AV:=
 match afu P t with
 |some true=>match mO P t with
  |some n=>if n≤l.length then some (.agg (l.take n)) else none
  |none=>none
 |some false=>l.head?
 |none=>none
theorem VL.take{K:Kn}{l:List AV}{cs:List Value}(h:VL K l cs)(n:Nat):VL K (l.take n) (cs.take n):=by
 refine⟨by simp[h.1],fun i hi hi'=>?_⟩;simp only[List.getElem_take];exact h.2 i (by simp at hi;omega) (by simp at hi';omega)
theorem VL.drop{K:Kn}{l:List AV}{cs:List Value}(h:VL K l cs)(n:Nat):VL K (l.drop n) (cs.drop n):=by
 refine⟨by simp[h.1],fun i hi hi'=>?_⟩;simp only[List.getElem_drop];exact h.2 (n+i) (by simp at hi;omega) (by simp at hi';omega)
theorem VL.append{K:Kn}{l l':List AV}{cs cs':List Value}(h:VL K l cs)(h':VL K l' cs'):VL K (l++l') (cs++cs'):=by
 refine⟨by simp[h.1,h'.1],fun i hi hi'=>?_⟩;have e1:=h.1;have e2:=h'.1;by_cases hl:i<l.length
 ·rw[List.getElem_append_left hl,List.getElem_append_left (by omega)]
  exact h.2 i hl (by omega)
 ·rw[List.getElem_append_right (by omega),List.getElem_append_right (by omega)]
  simp only[List.length_append] at hi hi';have:=h'.2 (i-l.length) (by omega) (by omega)
  rwa [show cs'[i-cs.length]'(by omega)=cs'[i-l.length]'(by omega) from by congr 1;omega]
theorem VL.at_{K:Kn}{l:List AV}{cs:List Value}(h:VL K l cs){i:Nat}{a:AV}(hi:l[i]? = some a):∃c,cs[i]? = some c∧VR K a c:=by
 have hl:i<l.length:=by
  by_cases hh:i<l.length
  ·exact hh
  ·rw[List.getElem?_eq_none (by omega)] at hi;cases hi
 rw[List.getElem?_eq_getElem hl] at hi;cases hi;have hl':i<cs.length:=by have:=h.1;omega
 exact⟨cs[i],List.getElem?_eq_getElem hl',h.2 i hl hl'⟩
theorem tq{P:Program}{K:Kn}{t:TypeId}{l:List AV}{cs:List Value}{v:AV}(hv:VL K l cs)(h:F5 P t l=some v)(g o:Nat) :
  ∃u,VR K v u∧∀w:World,(∀j c,cs[j]? = some c→w.cell? ⟨g,o+j,none⟩=some c)→(loadVar t ⟨g,o,none⟩).run P w=.ok u w:=by
 unfold F5 at h;split at h
 ·rename_i ha
  split at h
  ·rename_i n hn
   split at h
   ·rename_i hle
    cases h;refine⟨.agg (cs.take n).toArray,.agg _ _ (hv.take n).1 (hv.take n).2,fun w hc=>?_⟩;have hlen:(cs.take n).length=n:=by have:=hv.1;simp;omega
    have hl:=run_loadCells_list (P:=P) w ⟨g,o,none⟩ (cs.take n) (fun j c hj=>by
     rw[Addr.add_lit];rw[List.getElem?_take] at hj;split at hj
     ·exact hc j c hj
     ·cases hj)
    rw[hlen] at hl;simp[loadVar,yI ha,iq hn,hl]
   ·cases h
  ·cases h
 ·rename_i ha
  cases l with
  |nil=>cases h
  |cons a l=>
   cases h;obtain⟨c,hc0,hvc⟩:=hv.at_ (i:=0) rfl;refine⟨c,hvc,fun w hc=>?_⟩;have:=hc 0 c hc0;rw[Nat.add_zero] at this;simp[loadVar,yI ha,run_load,this]
 ·cases h
def Ld(P:Program)(t:TypeId)(l:List AV)(off:Nat):Option AV:=
 match afu P t with
 |some true=>(mO P t).map fun n=>.agg ((l.drop off).take n)
 |some false=>l[off]?
 |none=>none
theorem Ag{P:Program}{K:Kn}{t:TypeId}{l:List AV}{cs:List Value}{off:Nat}{v:AV}(hv:VL K l cs)(h:Ld P t l off=some v) :
  ∃u,VR K v u∧∀w:World,(part t cs.toArray off).run P w=.ok u w:=by
 unfold Ld at h;split at h
 ·rename_i ha
  cases hn:mO P t with
  |none=>rw[hn] at h;cases h
  |some n=>
   rw[hn] at h;cases h;refine⟨.agg ((cs.drop off).take n).toArray,.agg _ _ ((hv.drop off).take n).1 ((hv.drop off).take n).2,fun w=>?_⟩;simp[part,yI ha,iq hn,List.extract_eq_take_drop]
 ·rename_i ha
  obtain⟨c,hc,hvc⟩:=hv.at_ h;refine⟨c,hvc,fun w=>?_⟩;have:cs.toArray[off]? = some c:=by simpa using hc
  simp[part,yI ha,this]
 ·cases h
def Ug(P:Program)(o:Oper)(ρ:Operand→Value)(K:Kn)(w:World)(v:AV)(dep:Option Nat):Prop:=
 ∃u,VR K v u∧∀w':World,(∀g o c,K.M g o=some c→w'.cell? ⟨g,o,none⟩=some c)→(∀i,dep=some i→∀g,K.mu i=some g→w'.heap[g]? = w.heap[g]?)→
  (execOp ρ o).run P w'=.ok (.value u) w'
def setAt{α:Type}(l:List α)(off:Nat)(vs:List α):List α:=l.take off++vs++l.drop (off+vs.length)
theorem VL.setAt{K:Kn}{l vs:List AV}{cs us:List Value}(h:VL K l cs)(hv:VL K vs us)(off:Nat):VL K (setAt l off vs) (setAt cs off us):=by
 unfold Proofs.YtijcobeebaceoaaGreatDoor.setAt;rw[hv.1];exact((h.take off).append hv).append (h.drop _)
def qp(place:Nat→Option (Nat×Nat)):List AV→List (Nat×AV)→Option (List AV)
 |cells,[]=>some cells
 |cells,(i,v)::rest=>match place i with
  |none=>none
  |some (off,size)=>if v.cells.length≠size∨off+v.cells.length>cells.length then none else qp place (setAt cells off v.cells) rest
theorem Ma(off:Nat)(l:List Value)(cs:Array Value)(h:off+l.length≤cs.size) :
  (l.toArray.zipIdx.foldl (fun cs (x:Value×Nat)=>cs.setIfInBounds (off+x.2) x.1) cs).toList=setAt cs.toList off l:=by
 obtain⟨h1,h2⟩:=Great.foldl_set off l 0 cs;have e:l.toArray.zipIdx.foldl (fun cs (x:Value×Nat)=>cs.setIfInBounds (off+x.2) x.1) cs=(l.zipIdx 0).foldl (fun cs (x:Value×Nat)=>cs.setIfInBounds (off+x.2) x.1) cs:=by
  rw[←Array.foldl_toList];simp
 rw[e];apply List.ext_getElem?;intro k;rw[Array.getElem?_toList,h2 k];unfold setAt;by_cases hk:k<off
 ·rw[if_neg (by omega),List.append_assoc,List.getElem?_append_left (by simp;omega),List.getElem?_take,if_pos hk,Array.getElem?_toList]
 ·by_cases hk2:k<off+l.length
  ·rw[if_pos ⟨by omega,by omega,by omega⟩,List.getElem?_append_left (by simp;omega),List.getElem?_append_right (by simp;omega)]
   congr 1;simp;omega
  ·rw[if_neg (by omega),List.getElem?_append_right (by simp;omega),List.getElem?_drop,Array.getElem?_toList]
   congr 1;simp;omega
theorem kG{K:Kn}(place:Nat→Option (Nat×Nat)):∀(ps:List (Nat×AV)) (qs:List (Nat×Value)) (cells:List AV) (cs:Array Value) (out:List AV),
  VL K cells cs.toList→ps.length=qs.length→(∀i (h:i<ps.length) (h':i<qs.length),ps[i].1=qs[i].1∧VR K ps[i].2 qs[i].2)→
  qp place cells ps=some out→∃us,Instr.fill place cs qs=some us∧VL K out us.toList
 |[],[],cells,cs,out,hv,_,_,h=>by cases h;exact⟨cs,rfl,hv⟩
 |[],_::_,_,_,_,_,hl,_,_=>by simp at hl
 |_::_,[],_,_,_,_,hl,_,_=>by simp at hl
 |(i,v)::ps,(j,u)::qs,cells,cs,out,hv,hl,hp,h=>by
  obtain⟨e,hvu⟩:=hp 0 (by simp) (by simp);simp only[List.getElem_cons_zero] at e hvu;subst e;rw[qp] at h;rw[Instr.fill];cases hpl:place i with
  |none=>rw[hpl] at h;cases h
  |some x=>
   obtain⟨off,size⟩:=x;rw[hpl] at h;simp only at h ⊢;split at h
   ·cases h
   ·rename_i hcond
    have hc:=hvu.cells;have hsz:v.cells.length=u.cells.size:=by have:=hc.1;simpa using this
    have hcl:cells.length=cs.size:=by have:=hv.1;simpa using this
    rw[if_neg (by simp;omega)];have hu:u.cells=u.cells.toList.toArray:=by simp
    have hfold:=Ma off u.cells.toList cs (by simp;omega);rw[←hu] at hfold;refine kG place ps qs (setAt cells off v.cells) _ out ?_ (by simpa using hl) (fun k hk hk'=>hp (k+1) (by simpa using hk) (by simpa using hk')) h;rw[hfold];exact hv.setAt hc off
def j6(P:Program)(t:TypeId):Option (List AV):=match P.info? t with
 |some i=>match i.zero with
  |some z=>if z.cells.toList.all pJ then some (z.cells.toList.map fun v=>.pv (.lit v)) else none
  |none=>none
 |none=>none
theorem dG{K:Kn}{P:Program}{t:TypeId}{l:List AV}(h:j6 P t=some l):∃i z,P.info? t=some i∧i.zero=some z∧VL K l z.cells.toList:=by
 unfold j6 at h;cases hi:P.info? t with
 |none=>rw[hi] at h;cases h
 |some i=>
  rw[hi] at h;cases hz:i.zero with
  |none=>simp only[hz] at h;cases h
  |some z=>
   simp only[hz] at h;split at h
   ·rename_i hp
    cases h;refine⟨i,z,rfl,hz,by simp,fun k hk hk'=>?_⟩;simp only[List.getElem_map];refine .pv (.lit _ ?_);rw[List.all_eq_true] at hp;exact hp _ (List.getElem_mem _)
   ·cases h
def Bf(P:Program):List Field→Option (List (Nat×Nat))
 |[]=>some []
 |f::fs=>match P.info? f.type,Bf P fs with
  |some i,some l=>some ((f.offset,i.size)::l)
  |_,_=>none
theorem CO{P:Program}:∀(fs:List Field) (l:List (Nat×Nat)),Bf P fs=some l→fs.mapM (fun f=>(P.info? f.type).map fun i=>(f.offset,i.size))=some l
 |[],l,h=>by cases h;rfl
 |f::fs,l,h=>by
  rw[Bf] at h;split at h
  ·rename_i i r hi hr
   cases h;simp[List.mapM_cons,hi,CO fs r hr]
  ·cases h
def JG(P:Program)(t:TypeId)(ps:List (Nat×AV)):Option (List AV):=
 match j6 P t,P.underlying t with
 |some zc,some (.struct fs)=>match Bf P fs.toList with
  |some pl=>qp (pl[·]?) zc ps
  |none=>none
 |some zc,some (.array _ e)=>match mO P e with
  |some s=>qp (fun i=>some (i*s,s)) zc ps
  |none=>none
 |_,_=>none
theorem JF{K:Kn}{P:Program}{t:TypeId}{ps:List (Nat×AV)}{qs:List (Nat×Value)}{out:List AV}(hl:ps.length=qs.length)
  (hp:∀i (h:i<ps.length) (h':i<qs.length),ps[i].1=qs[i].1∧VR K ps[i].2 qs[i].2) (h:JG P t ps=some out) :
  ∃us,P.built t qs=some us∧VL K out us.toList:=by
 unfold JG at h;split at h
 ·rename_i zc fs hz hu
  obtain⟨i,z,hi,hiz,hvz⟩:=dG (K:=K) hz;split at h
  ·rename_i pl hpl
   obtain⟨us,hf,hv⟩:=kG _ ps qs zc z.cells out hvz hl hp h;refine⟨us,?_,hv⟩;simp only[Program.built,hi,hu,hiz,CO _ _ hpl];simpa using hf
  ·cases h
 ·rename_i zc n e hz hu
  obtain⟨i,z,hi,hiz,hvz⟩:=dG (K:=K) hz;split at h
  ·rename_i s hs
   obtain⟨us,hf,hv⟩:=kG _ ps qs zc z.cells out hvz hl hp h;refine⟨us,?_,hv⟩;unfold mO at hs;cases hie:P.info? e with
   |none=>rw[hie] at hs;cases hs
   |some ie=>
    rw[hie] at hs;cases hs;simp only[Program.built,hi,hu,hiz,hie];exact hf
  ·cases h
 ·cases h
def nU(ρ:Operand→Option AV):List (Nat×Operand)→Option (List (Nat×AV))
 |[]=>some []
 |(i,x)::l=>match ρ x,nU ρ l with
  |some v,some r=>some ((i,v)::r)
  |_,_=>none
def gQ(ρ:Operand→Value)(l:List (Nat×Operand)):List (Nat×Value):=l.map fun p=>(p.1,ρ p.2)
theorem kV{K:Kn}{ρA:Operand→Option AV}{ρ:Operand→Value}(hρ:∀x v,ρA x=some v→VR K v (ρ x)):∀(l:List (Nat×Operand)) (ps:List (Nat×AV)),nU ρA l=some ps→
  ps.length=(gQ ρ l).length∧∀i (h:i<ps.length) (h':i<(gQ ρ l).length),ps[i].1=(gQ ρ l)[i].1∧VR K ps[i].2 (gQ ρ l)[i].2
 |[],ps,h=>by cases h;exact⟨rfl,fun i h=>by simp at h⟩
 |(i,x)::l,ps,h=>by
  rw[nU] at h;split at h
  ·rename_i v r hv hr
   cases h;obtain⟨h1,h2⟩:=kV hρ l r hr;refine⟨by simpa[gQ] using h1,fun k hk hk'=>?_⟩;cases k with
   |zero=>exact⟨rfl,hρ x v hv⟩
   |succ k=>exact h2 k (by simpa using hk) (by simpa[gQ] using hk')
  ·cases h
def lH(ρ:Operand→Option AV):List Operand→Option (List AV)
 |[]=>some []
 |x::l=>match ρ x,lH ρ l with
  |some v,some r=>some (v::r)
  |_,_=>none
theorem iJ{K:Kn}{ρA:Operand→Option AV}{ρ:Operand→Value}(hρ:∀x v,ρA x=some v→VR K v (ρ x)):∀(l:List Operand) (vs:List AV),lH ρA l=some vs→VL K vs (l.map ρ)
 |[],vs,h=>by cases h;exact⟨rfl,fun i h=>by simp at h⟩
 |x::l,vs,h=>by
  rw[lH] at h;split at h
  ·rename_i v r hv hr
   cases h;obtain⟨h1,h2⟩:=iJ hρ l r hr;refine⟨by simpa using h1,fun k hk hk'=>?_⟩;cases k with
   |zero=>exact hρ x v hv
   |succ k=>exact h2 k (by simpa using hk) (by simpa using hk')
  ·cases h
def MH(h:List af)(i:Nat):Option (List AV):=match h[i]? with
 |some (.box _ c)=>some c
 |_=>none
def yB(h:List af):AV→Option (List AV×Option Nat)
 |.ptr i o=>match MH h i with
  |some c=>some (c.drop o,some i)
  |none=>none
 |.cptr cs=>some (cs.map .pv,none)
 |_=>none
def su:AV→Option Int
 |.pv (.lit (.int _ n))=>some n
 |_=>none
def OP:Value→Bool
 |.slice (some _) 0 _=>true
 |.slice none 0 (_+1)=>true
 |_=>false
def rowsOf:AV→Option (List (List PV))
 |.pv (.rows es)=>some es
 |.trows _ es=>some es
 |.pv (.lit v)=>if OP v then some [] else none
 |_=>none
def AV.isThere:AV→Bool
 |.ptr _ _ | .cptr _ | .fn _ _=>true
 |_=>false
def abA:AV→Nat→Option AV
 |.ptr i o,n=>some (.ptr i (o+n))
 |.cptr cs,n=>some (.cptr (cs.drop n))
 |_,_=>none
def afA(s:Nat):AV→AV
 |.cptr cs=>.cptr (cs.take s)
 |a=>a
def wP(P:Program)(s:TypeId)(f:Nat):Option Field:=match P.underlying s with
 |some (.struct fs)=>fs[f]?
 |_=>none
def lm(P:Program)(t:TypeId)(x:AV)(i:Int):Option AV:=match P.underlying t with
 |some (.slice e)=>match rowsOf x with
  |some es=>if 0≤i then match es[i.toNat]? with
    |some c=>if mO P e=some c.length then some (.cptr c) else none
    |none=>none
   else none
  |none=>none
 |some (.array n e)=>match mO P e with
  |some s=>if 0≤i∧i<n then(abA x (i.toNat*s)).map (afA s) else none
  |none=>none
 |_=>none
def rf(P:Program)(t:TypeId)(x i:AV):Option AV:=match x with
 |.agg l=>match P.underlying t,su i with
  |some (.array n e),some k=>match mO P e with
   |some s=>if 0≤k∧k<n then Ld P e l (k.toNat*s) else none
   |none=>none
  |_,_=>none
 |x=>match x.val?,i.val? with
  |some v,some j=>match bT P (Instr.index t v j) with
   |some u=>lK u
   |none=>none
  |_,_=>none
def Oa(P:Program)(t:TypeId)(x y:AV):Bool:=match P.underlying t,x,y with
 |some (.pointer _),.ptr _ _,.pv (.lit (.pointer none))=>true
 |some (.pointer _),.cptr _,.pv (.lit (.pointer none))=>true
 |some (.func _ _ _),.fn _ _,.pv (.lit .nilFunc)=>true
 |some (.slice _),.trows _ _,.pv (.lit (.slice none 0 0))=>true
 |some (.slice _),.pv (.rows (_::_)),.pv (.lit (.slice none 0 0))=>true
 |_,_,_=>false
def eqL:List UInt8→List UInt8→Bool
 |[],[]=>true
 |a::l,b::r=>match Nat.beq a.toNat b.toNat with
  |true=>eqL l r
  |false=>false
 |_,_=>false
theorem yw:∀(l r:List UInt8),eqL l r=true↔l=r
 |[],[]=>by simp[eqL]
 |[],_::_=>by simp[eqL]
 |_::_,[]=>by simp[eqL]
 |a::l,b::r=>by
  rw[eqL];cases h:Nat.beq a.toNat b.toNat with
  |true=>
   have e:a=b:=UInt8.toNat_inj.1 (Nat.eq_of_beq_eq_true h);simp only[yw l r,e,List.cons.injEq,true_and]
  |false=>
   have e:a≠b:=fun e=>Nat.ne_of_beq_eq_false h (by rw[e])
   simp[e]
def Mi(x y:ByteArray):Bool:=eqL x.data.toList y.data.toList
theorem aiL(x y:ByteArray):(x.toList==y.toList)=Mi x y:=by
 rw[ByteArray.toList_eq,ByteArray.toList_eq];unfold Mi;rw[Bool.eq_iff_iff,yw];simp
def agT(b:BinOp)(u v:AV):Option Bool:=match b,u,v with
 |.eql,.pv (.opq ne _ _),.pv (.lit (.string s))=>if ne.any (Mi s) then some false else none
 |.neq,.pv (.opq ne _ _),.pv (.lit (.string s))=>if ne.any (Mi s) then some true else none
 |.eql,.pv (.lit (.string s)),.pv (.opq ne _ _)=>if ne.any (Mi s) then some false else none
 |.neq,.pv (.lit (.string s)),.pv (.opq ne _ _)=>if ne.any (Mi s) then some true else none
 |.gtr,.pv (.rng lo hi),.pv (.lit (.int .i64 m))=>if m<(lo:Int) then some true else if(hi:Int)≤m then some false else none
 |_,_,_=>none
def aaE(b:BinOp)(p q:Value):Option Bool:=match p,q with
 |.string x,.string y=>match b with
  |.eql=>some (Mi x y)
  |.neq=>some (!Mi x y)
  |_=>none
 |_,_=>none
def O7(P:Program)(b:BinOp)(t:TypeId)(x y:Operand)(u v:AV):Option AV:=match u.val?,v.val? with
 |some p,some q=>match aaE b p q with
  |some r=>some (.pv (.lit (.bool r)))
  |none=>match bT P (do eqGuard b t x y p q;binOp b t p q) with
   |some r=>lK r
   |none=>none
 |_,_=>if Oa P t u v then match b with
   |.eql=>some (.pv (.lit (.bool false)))
   |.neq=>some (.pv (.lit (.bool true)))
   |_=>none
  else match agT b u v with
   |some r=>some (.pv (.lit (.bool r)))
   |none=>none
def rM(ρ:Operand→Option AV)(d:Nat):Option Operand→Option Nat
 |none=>some d
 |some x=>match ρ x with
  |some v=>match su v with
   |some n=>if 0≤n then some n.toNat else none
   |none=>none
  |none=>none
def FJ(ρ:Operand→Option AV):Option Operand→Option (Option Value)
 |none=>some none
 |some x=>match ρ x with
  |some v=>v.val?.map some
  |none=>none
def lQ(P:Program)(t:TypeId)(ρ:Operand→Option AV)(x:AV)(lo hi mx:Option Operand):Option AV:=match rowsOf x with
 |some es=>match P.underlying t,rM ρ 0 lo,rM ρ es.length hi,mx with
  |some (.slice e),some l,some r,none=>match mO P e with
   |some s=>if l≤r∧r≤es.length∧(l=0∨es.head?.map List.length=some s) then some (.pv (.rows ((es.drop l).take (r-l)))) else none
   |none=>none
  |_,_,_,_=>none
 |none=>match x.val?,FJ ρ lo,FJ ρ hi,FJ ρ mx with
  |some v,some l,some r,some m=>match bT P (Instr.sliceAt t v l r m) with
   |some u=>lK u
   |none=>none
  |_,_,_,_=>none
def LG:List AV→Option (List Value)
 |[]=>some []
 |a::l=>match a.val?,LG l with
  |some v,some r=>some (v::r)
  |_,_=>none
def LP(P:Program)(ts:Array TypeId)(x:AV):Option AV:=match x,ts[0]? with
 |.pv (.opq _ lo hi),some t=>match P.underlying t with
  |some .string=>some (.pv (.rng lo hi))
  |_=>none
 |x,some t=>match rowsOf x with
  |some es=>match P.underlying t with
   |some (.slice _)=>some (.pv (.lit (.int .i64 es.length)))
   |_=>none
  |none=>none
 |_,_=>none
def gU(P:Program)(b:Builtin)(ts:Array TypeId)(ty:TypeId)(vs:List AV):Option AV:=match b with
 |.len=>match vs with
  |[x]=>match LP P ts x with
   |some r=>some r
   |none=>match x.val? with
    |some v=>match bT P (Builtin.len_ ts ty #[v]) with
     |some u=>lK u
     |none=>none
    |none=>none
  |_=>none
 |.min=>match LG vs with
  |some us=>match bT P (Builtin.min_ ts ty us.toArray) with
   |some u=>lK u
   |none=>none
  |none=>none
 |.max=>match LG vs with
  |some us=>match bT P (Builtin.max_ ts ty us.toArray) with
   |some u=>lK u
   |none=>none
  |none=>none
 |_=>none
def tY:List (List PV)→Option (List Int)
 |[]=>some []
 |[.lit (.int .u8 n)]::l=>(tY l).map fun r=>n::r
 |_=>none
def Ku(l:List Int):ByteArray:=l.foldl (fun r n=>r.push (UInt8.ofNat n.toNat)) ByteArray.empty
def vF(P:Program)(s d:TypeId)(u:AV):Option AV:=match u.val? with
 |some a=>match bT P (convert s d a) with
  |some r=>lK r
  |none=>none
 |none=>match rowsOf u,P.underlying s,P.underlying d with
  |some es,some (.slice e),some .string=>match P.underlying e,tY es with
   |some (.int .u8),some ns=>some (.pv (.lit (.string (Ku ns))))
   |_,_=>none
  |_,_,_=>none
def qop(P:Program)(op:Op)(ty:TypeId)(ρ:Operand→Option AV)(h:List af):Option (AV×Option Nat):=
 match op with
 |.move x=>(ρ x).map fun v=>(v,none)
 |.assign x=>(ρ x).map fun v=>(v,none)
 |.pick c a b=>match ρ c with
  |some (.pv (.lit (.bool t)))=>(if t then ρ a else ρ b).map fun v=>(v,none)
  |_=>none
 |.nilCheck x=>match ρ x with
  |some v=>if v.isThere then some (v,none) else none
  |none=>none
 |.load t x=>match ρ x with
  |some a=>match yB h a with
   |some (l,d)=>(F5 P t l).map fun v=>(v,d)
   |none=>none
  |none=>none
 |.fieldAddr s x f=>match ρ x,wP P s f with
  |some a,some fl=>match mO P fl.type with
   |some (_+1)=>(abA a fl.offset).map fun v=>(v,none)
   |_=>none
  |_,_=>none
 |.field s x f=>match ρ x,wP P s f with
  |some (.agg l),some fl=>(Ld P fl.type l fl.offset).map fun v=>(v,none)
  |_,_=>none
 |.indexAddr t x i=>match ρ x,ρ i with
  |some a,some v=>match su v with
   |some n=>(lm P t a n).map fun v=>(v,none)
   |none=>none
  |_,_=>none
 |.index t x i=>match ρ x,ρ i with
  |some a,some v=>(rf P t a v).map fun v=>(v,none)
  |_,_=>none
 |.extract x i=>match ρ x with
  |some (.tup l)=>l[i]?.map fun v=>(v,none)
  |_=>none
 |.binOp b t x y _=>match ρ x,ρ y with
  |some u,some v=>(O7 P b t x y u v).map fun v=>(v,none)
  |_,_=>none
 |.unOp u _ x=>match ρ x with
  |some v=>match v.val? with
   |some a=>match bT P (Op.unary u a) with
    |some r=>(lK r).map fun v=>(v,none)
    |none=>none
   |none=>none
  |none=>none
 |.convert s d x=>match ρ x with
  |some v=>(vF P s d v).map fun v=>(v,none)
  |none=>none
 |.slice t x lo hi mx=>match ρ x with
  |some a=>(lQ P t ρ a lo hi mx).map fun v=>(v,none)
  |none=>none
 |.makeFunc (.func f) first caps=>if first.isEmpty then match lH ρ caps.toList with
   |some l=>match Nat.blt f EH with
    |true=>some (.fn f l,none)
    |false=>none
   |none=>none
  else match lH ρ first.toList,lH ρ caps.toList with
   |some l,some []=>some (.fn (f+EH) l,none)
   |some _,some _=>some (.pv .any,none)
   |_,_=>none
 |.build t parts=>match nU ρ parts.toList with
  |some ps=>(JG P t ps).map fun l=>(.agg l,none)
  |none=>none
 |.call ⟨.builtin b,args,ts⟩=>match lH ρ args.toList with
  |some vs=>(gU P b ts ty vs).map fun v=>(v,none)
  |none=>none
 |_=>none
section
variable{P:Program}{o:Oper}{ρ:Operand→Value}{ρA:Operand→Option AV}{K:Kn}{h:List af}{w:World}
theorem Ug.of{v:AV}{dep:Option Nat}(u:Value)(hu:VR K v u)(hr:∀w':World,(execOp ρ o).run P w'=.ok (.value u) w'):Ug P o ρ K w v dep:=⟨u,hu,fun w' _ _=>hr w'⟩
theorem vG(H:WR K h w){a:AV}{v:Value}(hv:VR K a v){l:List AV}{d:Option Nat}(hc:yB h a=some (l,d)) :
  ∃g off cs,v=.pointer (some ⟨g,off,none⟩)∧VL K l cs∧∀w':World,(∀g o c,K.M g o=some c→w'.cell? ⟨g,o,none⟩=some c)→(∀i,d=some i→∀g,K.mu i=some g→w'.heap[g]? = w.heap[g]?)→
   ∀j c,cs[j]? = some c→w'.cell? ⟨g,off+j,none⟩=some c:=by
 cases hv with
 |ptr i o g hm=>
  simp only[yB,MH] at hc;split at hc
  ·rename_i c hb
   cases hc;split at hb
   ·rename_i ty c' hi
    cases hb;obtain⟨g',cs,hm',hw,_,hvl⟩:=H.box i ty c hi;rw[hm] at hm';cases hm';refine⟨g,o,(cs.toList.take c.length).drop o,rfl,hvl.drop o,fun w' _ hd j x hj=>?_⟩;have:=hd i rfl g hm;rw[World.cell?_of_block (w:=w) this];rw[List.getElem?_drop,List.getElem?_take] at hj;split at hj
    ·rw[Array.getElem?_toList] at hj
     simp[World.cell?,hw,hj]
    ·cases hj
   ·cases hb
  ·cases hc
 |cptr cs g o us hcm hr=>
  cases hc;refine⟨g,o,(List.range cs.length).map us,rfl,⟨by simp,fun i hi hi'=>?_⟩,fun w' hM _ j x hj=>?_⟩
  ·simp only[List.getElem_map,List.getElem_range]
   exact .pv (hr i (by simpa using hi))
  ·have hl:j<cs.length:=by
    by_cases hh:j<cs.length
    ·exact hh
    ·rw[List.getElem?_eq_none (by simp;omega)] at hj;cases hj
   rw[List.getElem?_map,List.getElem?_range hl] at hj;cases hj;exact hM _ _ _ (hcm j hl)
 |_=>cases hc
theorem EM{a b:AV}{v:Value}{n:Nat}(hv:VR K a v)(ha:abA a n=some b):∃g o,v=.pointer (some ⟨g,o,none⟩)∧VR K b (.pointer (some ⟨g,o+n,none⟩)):=by
 cases hv with
 |ptr i o g hm=>cases ha;exact⟨g,o,rfl,.ptr i (o+n) g hm⟩
 |cptr cs g o us hc hr=>
  cases ha;refine⟨g,o,rfl,.cptr (cs.drop n) g (o+n) (fun j=>us (n+j)) (fun j hj=>?_) (fun j hj=>?_)⟩
  ·rw[Nat.add_assoc];exact hc (n+j) (by simp at hj;omega)
  ·rw[List.getElem_drop];exact hr (n+j) (by simp at hj;omega)
 |_=>cases ha
theorem Kl{a:AV}{v:Value}{s:Nat}(hv:VR K a v):VR K (afA s a) v:=by
 cases hv with
 |cptr cs g o us hc hr=>
  refine .cptr (cs.take s) g o us (fun j hj=>hc j ?_) (fun j hj=>?_)
  ·rw[List.length_take] at hj;omega
  ·rw[List.getElem_take];exact hr j (by rw[List.length_take] at hj;omega)
 |pv h=>exact .pv h
 |trows t es g us a b c d e=>exact .trows t es g us a b c d e
 |tsym t i es hi h=>exact .tsym t i es hi h
 |ptr i o g a=>exact .ptr i o g a
 |agg l cs hl h=>exact .agg l cs hl h
 |tup l cs hl h=>exact .tup l cs hl h
 |fn f l cs hl h hb=>exact .fn f l cs hl h hb
 |bfn f g l cs hl h hg=>exact .bfn f g l cs hl h hg
 |sl t lo len sz g cap off a b c d f=>exact .sl t lo len sz g cap off a b c d f
 |ifc t a=>exact .ifc t a
 |arr t g c a b d=>exact .arr t g c a b d
 |aptr t i o g k kd a b c=>exact .aptr t i o g k kd a b c
theorem fM{a:AV}{v:Value}{es:List (List PV)}(hv:VR K a v)(h:rowsOf a=some es):PR K.R K.M (.rows es) v:=by
 cases a with
 |pv p=>cases p<;>first
  |(cases h;exact hv.toPV rfl)
  |(rename_i u
    simp only[rowsOf] at h;split at h
    ·rename_i he
     cases h;cases hv with
     |pv hp=>
      cases hp;unfold OP at he;split at he
      ·exact .rows [] _ _ 0 0 0 (fun _ _=>.bool true) (fun h=>absurd rfl h) (Nat.zero_le _) (fun i h=>by cases h) (fun i h=>by cases h) (fun i h=>by cases h)
      ·exact .rows [] _ _ 0 0 0 (fun _ _=>.bool true) (fun h=>absurd rfl h) (Nat.zero_le _) (fun i h=>by cases h) (fun i h=>by cases h) (fun i h=>by cases h)
      ·cases he
    ·cases h)
  |cases h
 |trows t es'=>cases h;exact hv.toPV rfl
 |_=>cases h
theorem ji{a:AV}{v:Value}{n:Int}(hv:VR K a v)(h:su a=some n):∃k,v=.int k n:=by
 cases hv with
 |pv hp=>cases hp with
  |lit v _=>cases v<;>first|(cases h;exact⟨_,rfl⟩)|cases h
  |_=>cases h
 |_=>cases h
theorem wO{s:TypeId}{f:Nat}{fl:Field}(h:wP P s f=some fl):∃fs,P.underlying s=some (.struct fs)∧fs[f]? = some fl:=by
 unfold wP at h;split at h
 ·rename_i fs hu;exact⟨fs,hu,h⟩
 ·cases h
theorem ahl{es:List (List PV)}{v:Value}(hv:PR K.R K.M (.rows es) v){i:Nat}{c:List PV}(hi:es[i]? = some c) :
  ∃g off cap,v=.slice (some ⟨g,off,none⟩) es.length cap∧VR K (.cptr c) (.pointer (some ⟨g,off+i*c.length,none⟩)):=by
 cases hv with
 |rows es a cap g off sz us ha hn hsz hc hr=>
  have hl:i<es.length:=by
   by_cases hh:i<es.length
   ·exact hh
   ·rw[List.getElem?_eq_none (by omega)] at hi;cases hi
  rw[List.getElem?_eq_getElem hl] at hi;cases hi;have hne:es≠[]:=by rintro rfl;simp at hl
  rw[ha hne];refine⟨g,off,cap,rfl,.cptr _ g _ (us i) (fun j hj=>?_) (fun j hj=>hr i hl j hj)⟩;rw[hsz i hl] at hj ⊢;exact hc i hl j hj
theorem DJ{t:TypeId}{a b:AV}{v iv:Value}{n:Int}(hv:VR K a v)(hi:∃k,iv=.int k n)(hq:lm P t a n=some b) :
  ∃u,VR K b u∧∀w':World,(Instr.indexAt t v iv).run P w'=.ok u w':=by
 obtain⟨k,rfl⟩:=hi;unfold lm at hq;split at hq
 ·rename_i e hu
  split at hq
  ·rename_i es hes
   split at hq
   ·rename_i h0
    split at hq
    ·rename_i c hc
     split at hq
     ·rename_i hs
      cases hq;obtain⟨g,off,cap,rfl,hvr⟩:=ahl (fM hv hes) hc;refine⟨_,hvr,fun w'=>?_⟩;have hl:n.toNat<es.length:=by
       by_cases hh:n.toNat<es.length
       ·exact hh
       ·rw[List.getElem?_eq_none (by omega)] at hc;cases hc
      have hlt:n<(es.length:Int):=by omega
      simp[Instr.indexAt,asIntOf,run_underlying hu,h0,hlt,iq hs,Addr.add_lit]
     ·cases hq
    ·cases hq
   ·cases hq
  ·cases hq
 ·rename_i m e hu
  split at hq
  ·rename_i s hs
   split at hq
   ·rename_i hin
    obtain⟨b',hb',rfl⟩:=Option.map_eq_some_iff.1 hq;obtain⟨g,off,rfl,hvr⟩:=EM hv hb';refine⟨_,Kl hvr,fun w'=>?_⟩;simp[Instr.indexAt,asIntOf,run_underlying hu,Instr.sureAddr,hin.1,hin.2,iq hs,Addr.add_lit]
   ·cases hq
  ·cases hq
 ·cases hq
theorem IV{t:TypeId}{a i b:AV}{v iv:Value}(hv:VR K a v)(hi:VR K i iv)(hq:rf P t a i=some b) :
  ∃u,VR K b u∧∀w':World,(Instr.index t v iv).run P w'=.ok u w':=by
 unfold rf at hq;split at hq
 ·rename_i l
  split at hq
  ·rename_i n e k hu hk
   split at hq
   ·rename_i s hs
    split at hq
    ·rename_i hin
     cases hv with
     |agg _ cs hl hh=>
      obtain⟨kk,rfl⟩:=ji hi hk;obtain⟨u,hvu,hr⟩:=Ag (P:=P) ⟨hl,hh⟩ hq;refine⟨u,hvu,fun w'=>?_⟩;simp[Instr.index,asIntOf,run_underlying hu,hin.1,hin.2,iq hs,hr w']
    ·cases hq
   ·cases hq
  ·cases hq
 ·split at hq
  ·rename_i x y hx hy
   split at hq
   ·rename_i u hp
    have e1:=eO hv hx;have e2:=eO hi hy;subst e1;subst e2;exact⟨u,gN hq,iF hp⟩
   ·cases hq
  ·cases hq
theorem Ak{t:TypeId}{u v:AV}{p q:Value}(hu:VR K u p)(hv:VR K v q)(hn:Oa P t u v=true)(d:Nat)(w':World) :
  (Op.equalIn (d+1) t p q).run P w'=.ok false w'∧(∀b x y,(eqGuard b t x y p q).run P w'=.ok () w')∧(binOp .eql t p q=do pure (.bool (←Op.equal t p q)))∧(binOp .neq t p q=do pure (.bool (!(←Op.equal t p q)))):=by
 unfold Oa at hn;split at hn
 ·rename_i e i o hut
  cases hu;cases hv with
  |pv hp=>
   cases hp;exact⟨by simp[Op.equalIn,run_underlying hut],fun b x y=>by cases b<;>simp[eqGuard],rfl,rfl⟩
 ·rename_i e cs hut
  cases hu;cases hv with
  |pv hp=>
   cases hp;exact⟨by simp[Op.equalIn,run_underlying hut],fun b x y=>by cases b<;>simp[eqGuard],rfl,rfl⟩
 ·rename_i a1 a2 a3 f caps hut
  cases hu
  all_goals
   cases hv with
   |pv hp=>
    cases hp;exact⟨by simp[Op.equalIn,run_underlying hut],fun b x y=>by cases b<;>simp[eqGuard],rfl,rfl⟩
 ·rename_i e tt es hut
  cases hu;cases hv with
  |pv hp=>
   cases hp;exact⟨by simp[Op.equalIn,run_underlying hut],fun b x y=>by cases b<;>simp[eqGuard],rfl,rfl⟩
 ·rename_i e r0 rs hut
  cases hu with
  |pv hp1=>
   cases hp1 with
   |rows _ a cap g off sz us ha _ _ _ _=>
    rw[ha (by simp)];cases hv with
    |pv hp=>
     cases hp;exact⟨by simp[Op.equalIn,run_underlying hut],fun b x y=>by cases b<;>simp[eqGuard],rfl,rfl⟩
 ·cases hn
theorem Mh(t:TypeId)(p q:Value):Op.equal t p q=Op.equalIn (9999+1) t p q:=rfl
theorem Ij{ne:List ByteArray}{s y:ByteArray}(hne:∀x,x∈ne→s.data.toList≠x.data.toList)(h:ne.any (Mi y)=true):s.toList≠y.toList:=by
 rw[List.any_eq_true] at h;obtain⟨x,hx,he⟩:=h;have:=(yw _ _).1 he;rw[ByteArray.toList_eq,ByteArray.toList_eq,this];exact hne x hx
theorem Mc{b:BinOp}{t:TypeId}{x y:Operand}{p q:Value}{r:Bool}(hq:aaE b p q=some r)(w':World):(do eqGuard b t x y p q;binOp b t p q:Sem Value).run P w'=.ok (.bool r) w':=by
 unfold aaE at hq;split at hq
 ·rename_i s s'
  have h1:=aiL s s';split at hq
  ·cases hq
   simp only[Sem.run_bind,binOp,Op.stringOp,h1];simp[eqGuard]
  ·cases hq
   simp only[Sem.run_bind,binOp,Op.stringOp,h1];simp[eqGuard]
  ·cases hq
 ·cases hq
theorem Nr{b:BinOp}{t:TypeId}{x y:Operand}{u v:AV}{p q:Value}{r:Bool}(hu:VR K u p)(hv:VR K v q)(hq:agT b u v=some r)(w':World) :
  (do eqGuard b t x y p q;binOp b t p q:Sem Value).run P w'=.ok (.bool r) w':=by
 unfold agT at hq;split at hq
 ·split at hq
  ·rename_i he
   cases hq;cases hu with
   |pv hp=>
    cases hp with
    |opq ne lo hi s hne _ _=>
     have e:=eO hv rfl;subst e;have h1:=Ij hne he;simp[eqGuard,binOp,Op.stringOp,h1]
  ·cases hq
 ·split at hq
  ·rename_i he
   cases hq;cases hu with
   |pv hp=>
    cases hp with
    |opq ne lo hi s hne _ _=>
     have e:=eO hv rfl;subst e;have h1:=Ij hne he;simp[eqGuard,binOp,Op.stringOp,h1]
  ·cases hq
 ·split at hq
  ·rename_i he
   cases hq;cases hv with
   |pv hp=>
    cases hp with
    |opq ne lo hi s hne _ _=>
     have e:=eO hu rfl;subst e;have h1:=Ij hne he;simp[eqGuard,binOp,Op.stringOp,Ne.symm h1]
  ·cases hq
 ·split at hq
  ·rename_i he
   cases hq;cases hv with
   |pv hp=>
    cases hp with
    |opq ne lo hi s hne _ _=>
     have e:=eO hu rfl;subst e;have h1:=Ij hne he;simp[eqGuard,binOp,Op.stringOp,Ne.symm h1]
  ·cases hq
 ·cases hu with
  |pv hp=>
   cases hp with
   |rng lo hi n hlo hhi=>
    have e:=eO hv rfl;subst e;split at hq
    ·cases hq
     have:decide (_<n)=true:=decide_eq_true (Int.lt_of_lt_of_le ‹_› hlo);simp[eqGuard,binOp,Op.intCmp];omega
    ·split at hq
     ·cases hq
      simp[eqGuard,binOp,Op.intCmp];omega
     ·cases hq
 ·cases hq
theorem O6{b:BinOp}{t:TypeId}{x y:Operand}{u v r:AV}{p q:Value}(hu:VR K u p)(hv:VR K v q)(hq:O7 P b t x y u v=some r) :
  ∃z,VR K r z∧∀w':World,(do eqGuard b t x y p q;binOp b t p q:Sem Value).run P w'=.ok z w':=by
 unfold O7 at hq;split at hq
 ·rename_i a c ha hc
  have e1:=eO hu ha;have e2:=eO hv hc;subst e1;subst e2;split at hq
  ·rename_i r hr
   cases hq;exact⟨_,.pv (.lit _ rfl),Mc hr⟩
  ·split at hq
   ·rename_i z hz
    exact⟨z,gN hq,iF hz⟩
   ·cases hq
 ·split at hq
  ·rename_i hn
   split at hq
   ·cases hq
    refine⟨.bool false,.pv (.lit _ rfl),fun w'=>?_⟩;obtain⟨h1,h2,h3,h4⟩:=Ak hu hv hn 9999 w';rw[←Mh] at h1;rw[h3];simp only[Sem.run_bind,h2,Result.andThen_ok,h1,Sem.run_pure]
   ·cases hq
    refine⟨.bool true,.pv (.lit _ rfl),fun w'=>?_⟩;obtain⟨h1,h2,h3,h4⟩:=Ak hu hv hn 9999 w';rw[←Mh] at h1;rw[h4];simp only[Sem.run_bind,h2,Result.andThen_ok,h1,Sem.run_pure,Bool.not_false]
   ·cases hq
  ·split at hq
   ·rename_i r hr
    cases hq;exact⟨_,.pv (.lit _ rfl),Nr hu hv hr⟩
   ·cases hq
end
end Go.Proofs.YtijcobeebaceoaaGreatDoor
namespace Go.Proofs.YtijcobeebaceoaaGreatDoor
open Go.RowKit
section
variable{P:Program}{o:Oper}{ρ:Operand→Value}{ρA:Operand→Option AV}{K:Kn}{h:List af}{w:World}
theorem rJ(hρ:∀x v,ρA x=some v→VR K v (ρ x)){d:Nat}{x:Option Operand}{n:Nat}(hb:rM ρA d x=some n) :
  (x=none∧n=d)∨∃y k,x=some y∧ρ y=.int k (n:Int):=by
 unfold rM at hb;split at hb
 ·cases hb;exact .inl ⟨rfl,rfl⟩
 ·rename_i y
  split at hb
  ·rename_i v hv
   split at hb
   ·rename_i m hm
    split at hb
    ·rename_i h0
     cases hb;obtain⟨k,hk⟩:=ji (hρ y v hv) hm;exact .inr ⟨y,k,rfl,by rw[hk];congr 1;omega⟩
    ·cases hb
   ·cases hb
  ·cases hb
theorem sG(hρ:∀x v,ρA x=some v→VR K v (ρ x)){x:Option Operand}{r:Option Value}(hb:FJ ρA x=some r):x.map ρ=r:=by
 unfold FJ at hb;split at hb
 ·cases hb;rfl
 ·rename_i y
  split at hb
  ·rename_i v hv
   cases hq:v.val? with
   |none=>rw[hq] at hb;cases hb
   |some u=>
    rw[hq] at hb;cases hb;rw[Option.map_some,eO (hρ y v hv) hq]
  ·cases hb
theorem run_sliceBound(w':World)(k:IntKind)(n y:Nat)(c:BoundsCode)(h:n≤y):(Instr.sliceBound (.int k (n:Int)) y c).run P w'=.ok n w':=by
 have:((n:Int)≤(y:Int)):=by omega
 simp[Instr.sliceBound,asIntOf,this]
theorem acB{es:List (List PV)}{a:Option Addr}{len cap l r s:Nat}(hv:PR K.R K.M (.rows es) (.slice a len cap))(hlr:l≤r)(hr:r≤es.length)(hs:l=0∨es.head?.map List.length=some s) :
  PR K.R K.M (.rows ((es.drop l).take (r-l))) (.slice (if cap=l then a else a.map (·.add (l*s))) (r-l) (cap-l)):=by
 cases hv with
 |rows es a cap g off sz us ha hn hsz hc hr'=>
  have hlen:((es.drop l).take (r-l)).length=r-l:=by simp;omega
  have hss:l=0∨(es≠[]→s=sz):=by
   rcases hs with hs|hs
   ·exact .inl hs
   ·right
    intro hne;cases es with
    |nil=>exact absurd rfl hne
    |cons e es=>
     have:=hsz 0 (by simp);simp at hs this;omega
  have key:=PR.rows (R:=K.R) (M:=K.M) ((es.drop l).take (r-l)) (if cap=l then a else a.map (·.add (l*s))) (cap-l) g (off+l*sz) sz (fun i j=>us (l+i) j)
   (fun hne=>by
    have hpos:0<r-l:=by rw[←hlen];exact List.length_pos_iff.2 hne
    have hes:es≠[]:=by rintro rfl;simp at hr;omega
    rw[if_neg (by omega),ha hes];rcases hss with h0|hss
    ·subst h0;simp[Addr.add_lit]
    ·rw[hss hes];simp[Addr.add_lit])
   (by rw[hlen];omega)
   (fun i hi=>by rw[List.getElem_take,List.getElem_drop];exact hsz _ _)
   (fun i hi j hj=>by
    rw[hlen] at hi;have:=hc (l+i) (by omega) j hj;rw[Nat.add_mul] at this
    rwa [show off+l*sz+i*sz+j=off+(l*sz+i*sz)+j by omega])
   (fun i hi j hj=>by
    rw[hlen] at hi;have:=hr' (l+i) (by omega) j (by rw[List.getElem_take,List.getElem_drop] at hj;exact hj);simpa[List.getElem_take,List.getElem_drop] using this)
  rw[hlen] at key;exact key
theorem Gw(hρ:∀x v,ρA x=some v→VR K v (ρ x)){t:TypeId}{a b:AV}{v:Value}{lo hi mx:Option Operand}(hv:VR K a v)(hq:lQ P t ρA a lo hi mx=some b) :
  ∃u,VR K b u∧∀w':World,(Instr.sliceAt t v (lo.map ρ) (hi.map ρ) (mx.map ρ)).run P w'=.ok u w':=by
 unfold lQ at hq;split at hq
 ·rename_i es hes
  split at hq
  ·rename_i e l r hu hl hr
   split at hq
   ·rename_i s hs
    split at hq
    ·rename_i hc
     cases hq;have hp:=fM hv hes;obtain⟨ad,cap,rfl,hcap⟩:∃ad cap,v=.slice ad es.length cap∧es.length≤cap:=by
      cases hp with
      |rows _ a cap g off sz us ha hn _ _ _=>exact⟨a,cap,rfl,hn⟩
     refine⟨_,.pv (acB hp hc.1 hc.2.1 hc.2.2),fun w'=>?_⟩;have hB:(Instr.sliceBounds true es.length cap (lo.map ρ) (hi.map ρ) none).run P w'=.ok (l,r,cap) w':=by
      have h1:∀k c,(Instr.sliceBound (.int k (r:Int)) cap c).run P w'=.ok r w':=fun k c=>run_sliceBound w' k r cap c (by omega)
      have h2:∀k c,(Instr.sliceBound (.int k (l:Int)) r c).run P w'=.ok l w':=fun k c=>run_sliceBound w' k l r c hc.1
      rcases rJ hρ hr with⟨rfl,rfl⟩|⟨y,k,rfl,hy⟩
      ·rcases rJ hρ hl with⟨rfl,rfl⟩|⟨z,k',rfl,hz⟩
       ·simp[Instr.sliceBounds]
       ·simp[Instr.sliceBounds,hz,h2]
      ·rcases rJ hρ hl with⟨rfl,rfl⟩|⟨z,k',rfl,hz⟩
       ·simp[Instr.sliceBounds,hy,h1]
       ·simp[Instr.sliceBounds,hy,hz,h1,h2]
     simp[Instr.sliceAt,Instr.slice,run_underlying hu,hB,iq hs]
    ·cases hq
   ·cases hq
  ·cases hq
 ·split at hq
  ·rename_i x l r m hx hl hr hm
   split at hq
   ·rename_i u hp
    have e:=eO hv hx;subst e;rw[sG hρ hl,sG hρ hr,sG hρ hm];exact⟨u,gN hq,iF hp⟩
   ·cases hq
  ·cases hq
theorem Dy:∀{l:List AV} {cs us:List Value},VL K l cs→LG l=some us→cs=us
 |[],cs,us,h,hu=>by
  cases hu;exact List.eq_nil_of_length_eq_zero h.1.symm
 |a::l,[],us,h,_=>by have:=h.1;simp at this
 |a::l,c::cs,us,h,hu=>by
  rw[LG] at hu;split at hu
  ·rename_i v vs h1 h2
   cases hu;have e1:=eO (h.2 0 (by simp) (by simp)) h1;have e2:=Dy (cs:=cs) ⟨by simpa using h.1,fun i hi hi'=>h.2 (i+1) (by simpa using hi) (by simpa using hi')⟩ h2;simp only[List.getElem_cons_zero] at e1;rw[e1,e2]
  ·cases hu
theorem EF{b:Builtin}{ts:Array TypeId}{ty:TypeId}{vs:List AV}{us:List Value}{r:AV}(hv:VL K vs us)(hq:gU P b ts ty vs=some r)(cs:Array Bool) :
  ∃u,VR K r u∧∀w':World,(builtin b ts ty cs us.toArray).run P w'=.ok (.value u) w':=by
 unfold gU at hq;split at hq
 ·split at hq
  ·rename_i x
   obtain⟨c,rfl,hx⟩:∃c,us=[c]∧VR K x c:=by
    match us,hv with
    |[],hv=>have:=hv.1;simp at this
    |[c],hv=>exact⟨c,rfl,hv.2 0 (by simp) (by simp)⟩
    |_::_::_,hv=>have:=hv.1;simp at this
   split at hq
   ·rename_i r' hr
    cases hq;unfold LP at hr;split at hr
    ·rename_i ne lo hi t ht
     split at hr
     ·rename_i hu
      cases hr;cases hx with
      |pv hp=>
       cases hp with
       |opq _ _ _ s _ hlo hhi=>
        refine⟨_,.pv (.rng lo hi s.size (by omega) (by omega)),fun w'=>?_⟩;simp[builtin,Builtin.len_,ht,run_underlying hu,goInt]
     ·cases hr
    ·rename_i t _ ht
     split at hr
     ·rename_i es hes
      split at hr
      ·rename_i e hu
       cases hr;have hp:=fM hx hes;obtain⟨ad,cap,rfl⟩:∃ad cap,c=.slice ad es.length cap:=by
        cases hp with
        |rows _ a cap g off sz us ha hn _ _ _=>exact⟨a,cap,rfl⟩
       refine⟨_,.pv (.lit _ rfl),fun w'=>?_⟩;simp[builtin,Builtin.len_,ht,run_underlying hu,goInt]
      ·cases hr
     ·cases hr
    ·cases hr
   ·split at hq
    ·rename_i v hv'
     split at hq
     ·rename_i u hp
      have e:=eO hx hv';subst e;refine⟨u,gN hq,fun w'=>?_⟩;have:=iF hp w';simp[builtin,this]
     ·cases hq
    ·cases hq
  ·cases hq
 ·split at hq
  ·rename_i l hl
   split at hq
   ·rename_i u hp
    rw[Dy hv hl];refine⟨u,gN hq,fun w'=>?_⟩;have:=iF hp w';simp[builtin,this]
   ·cases hq
  ·cases hq
 ·split at hq
  ·rename_i l hl
   split at hq
   ·rename_i u hp
    rw[Dy hv hl];refine⟨u,gN hq,fun w'=>?_⟩;have:=iF hp w';simp[builtin,this]
   ·cases hq
  ·cases hq
 ·cases hq
theorem LZ{v:AV}{u:Value}(hv:VR K v u)(ht:v.isThere=true)(x:Operand)(hx:ρ x=u)(ho:o.op=.nilCheck x)(w':World):(execOp ρ o).run P w'=.ok (.value u) w':=by
 cases hv with
 |ptr=>simp[execOp,ho,hx]
 |cptr=>simp[execOp,ho,hx]
 |fn=>simp[execOp,ho,hx]
 |bfn=>simp[execOp,ho,hx]
 |_=>cases ht
theorem aG{α β:Type}{f:α→β}{x:Option α}{y:β}(h:x.map f=some y):∃a,x=some a∧f a=y:=by
 cases x with
 |none=>cases h
 |some a=>exact⟨a,rfl,by simpa using h⟩
end
end Go.Proofs.YtijcobeebaceoaaGreatDoor
